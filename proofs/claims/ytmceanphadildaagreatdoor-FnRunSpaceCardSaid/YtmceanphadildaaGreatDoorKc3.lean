/-
  slices.
-/
import Derived.Test.YtmceanphadildaaGreatDoorKc1
import Derived.Test.YtmceanphadildaaGreatDoorKc2
import Derived.Laws.Slices
import Derived.Test.YtmceanphadildaaGreatDoorKc0
set_option linter.unusedVariables false
set_option linter.unusedSimpArgs false
set_option linter.ambiguousOpen false
set_option maxHeartbeats 0
set_option maxRecDepth 100000
set_option synthInstance.maxSize 4000
set_option synthInstance.maxHeartbeats 0
namespace Go.Proofs.YtmceanphadildaaGreatDoor
open Go Go.RowKit Tryz Go.Proofs.Tryz
namespace Gw
theorem y13 {p : Prop} (h : p := by
  refine A2 7 ?_
  (refine R4 rfl rfl rfl rfl rfl rfl (fun _ _ => by repeat (first | exact Sw.here | apply Sw.there)) (O4 zG0) rfl zI0 zJ0 zO0 rfl rfl zK (fun p5 c5 => ?_))
  refine xx1 8 ?_
  refine A5 ?_
  (refine H1 (cs := es.flatten ++ [.string nm, .int .i64 k, .slice q ks.length d]) zB0 (fun G5 hle5 hsl5 hno5 => ?_))
  refine A5 ?_
  (exact ⟨rfl, _, _, rfl, Z3.snoc h1 h2 h3 hle5 (A7F (hr.mono hle5) ha hs hnm) hsl5⟩)
) : p := h
theorem y14 {p : Prop} (h : p := by
  refine zf6 ?_
  refine xx2 0 1 ?_
  refine aP 2 rfl (B0A rfl rfl rfl zO0) rfl ?_
  refine xx1 3 ?_
  refine aP 4 rfl (A3D rfl rfl (by simp only [ByteArray.size_extract, ByteArray.size_append]; omega)) rfl ?_
  refine xx2 5 6 ?_
  refine aP 7 rfl (B0B rfl rfl rfl zO0) rfl ?_
  refine aP 8 rfl (A3D rfl rfl (by simp only [ByteArray.size_extract, ByteArray.size_append]; omega)) rfl ?_
  refine xx1 9 ?_
  refine B5 ?_
  refine I6 (outs := []) (rT rfl) A1.nil ?_
  (exact ⟨rfl, rfl, _, rfl, by simp only [ByteArray.size_extract, ByteArray.size_append]; omega⟩)
) : p := h
theorem y15 {p : Prop} (h : p := by
  refine J3 ?_
  (refine K4 rfl (A0i G br pb nb cb p bs (n : Int) hb hnb hp) (List.Perm.refl _) rfl rfl (fun v G1 outs hle1 hh => ?_); obtain ⟨rfl, rfl, k, rfl, hk0, hkn⟩ := hh; obtain ⟨j, rfl⟩ := Int.eq_ofNat_of_zero_le hk0)
  (obtain ⟨b, o, v, rfl, hv, hat, _⟩ := hx.kid (i := j) zO0; refine sP (B2 rfl rfl rfl zO0) rfl rfl ?_)
  refine sL (A0t rfl rfl (hat _)) rfl rfl ?_
  refine B6 ?_
  refine I6 (rT rfl) A1.refl ?_
  exact ⟨rfl, rfl, List.mem_of_getElem? hv⟩
) : p := h
theorem y16 {p : Prop} (h : p := by
  refine F0 rfl ((A2k _ _)) rfl rfl ?_
  refine F0 rfl ((A2k _ _)) rfl rfl ?_
  (refine H6 rfl hB rfl rfl (fun v G1 hle1 hh => ?_); obtain ⟨cb, rfl, hrb⟩ := hh; obtain ⟨p1, c1, e1, rfl, _⟩ := hrb.open)
  refine B1 ?_
  refine zf9 ?_
  (exact ⟨rfl, _, rfl, by unfold mGk; rw [if_pos zO0]; exact hrb⟩)
) : p := h
theorem y17 {p : Prop} (h : p := by
  refine A5 ?_
  refine zf1 (fun b3 => ?_)
  refine E1 ?_
  refine zf9 ?_
  exact ⟨rfl, rfl, rfl⟩
) : p := h
variable {hp : List A9}
theorem Sw.same {hp' : List A9} {e : A9} (h : Sw hp e e hp') : hp' = hp := by
 generalize he : e = e' at h
 have : ∀ {hp e e' hp'}, Sw hp e e' hp' → e = e' → hp' = hp := by
  intro hp e e' hp' h
  induction h with
  | here => rintro rfl; rfl
  | there _ ih => intro he; rw [ih he]
 subst he
 exact this h rfl
section
variable {P : Program} {Γ : M5} {env : M8} {hp : List A9} {G : IM} {ty : TypeId}
variable {hp' : Option Addr → Nat → List A9} {cs news zs : List Value} {c n c2 by' d : Nat} {p q : Option Addr} {ie i : L8} {t el : TypeId} {x y : Operand}
theorem B0y {sz : Nat} [hI : I4 P t i] [hEl : I4 P el ie] (hd' : i.desc = .slice el) [hE : Y1 P el sz by' zs] {m : Nat}
  (hd : Nat.blt d Γ.n = true) (hx : evo env x = some (.slice p n c)) (hy : evo env y = some (.slice q m c2)) (hsz : Nat.blt 0 sz = true)
  (hm : ∀ p' c', Sw hp (.slc p c el sz n cs) (.slc p' c' el sz (n + m) (cs ++ news)) (hp' p' c'))
  (hS : Sl G q m c2 sz news) (h1 : ∀ u ∈ news, u.oneCell' = true) (hc : n ≤ c)
  (h63 : n + m ≤ maxLen) (hb : (n + m) * by' ≤ 140737488355328) :
  Y9 P Γ ⟨env, hp, G⟩ (some d) (.call ⟨.builtin .append, ⟨[x, y]⟩, ⟨[t, t]⟩⟩) ty (K0 p) (fun σ' => ∃ p' c', σ' = ⟨(d, .slice p' (n + m) c') :: env, hp' p' c', G⟩) := by
 obtain ⟨hl, _, _, hat⟩ := hS
 rcases Nat.eq_zero_or_pos m with rfl | hm0
 ·obtain rfl : news = [] := List.length_eq_zero_iff.1 zO0
  have hpu := B4A (P := P) (Γ := Γ) (hp := hp) (G := G) (ty := ty) (t := t) (el := el) hd' hx hy hc
  refine ⟨fun a w hs pos af gd Q next hn => ?_⟩
  simp only [Oper.wp, hpu.run a w hs, Oper.upon]
  refine hn _ _ _ (hs.put d _ (by simpa using hd) hs.res) (Ext.refl _ _) ⟨p, c, ?_⟩
  have h0 := hm p c
  simp only [Nat.add_zero, List.append_nil] at h0 ⊢
  rw [h0.same]
 ·obtain ⟨b, o, full, rfl, hg, hv⟩ := hat.resolve_left zO0
  exact A62 hd' hd hx hy hsz hm (A4q hg hv) hl h1 h63 hb
variable {K : Po} {ops : Array Oper} {rest : List Oper} {pos : String} {af : Array Edge} {gd : Option (Nat × Bool)}
theorem B54 {sz : Nat} [hI : I4 P t i] [hEl : I4 P el ie] [hE : Y1 P el sz by' zs] {m : Nat}
  (hd' : i.desc = .slice el) (hd : Nat.blt d Γ.n = true) (hx : evo env x = some (.slice p n c)) (hy : evo env y = some (.slice q m c2)) (hsz : Nat.blt 0 sz = true)
  (hm : ∀ p' c', Sw hp (.slc p c el sz n cs) (.slc p' c' el sz (n + m) (cs ++ news)) (hp' p' c'))
  (hS : Sl G q m c2 sz news) (h1 : ∀ u ∈ news, u.oneCell' = true) (hc : n ≤ c)
  (h63 : n + m ≤ maxLen) (hb : (n + m) * by' ≤ 140737488355328) (hw : M6 ops env gd = some true)
  (k : ∀ p' c', J2 P Γ ops rest K ⟨(d, .slice p' (n + m) c') :: env, hp' p' c', G⟩) : J2 P Γ ops (⟨some d, .call ⟨.builtin .append, ⟨[x, y]⟩, ⟨[t, t]⟩⟩, ty, pos, af, gd⟩ :: rest) K ⟨env, hp, G⟩ :=
 J0 (B0y hd' hd hx hy hsz hm hS h1 hc h63 hb) hw (by rintro _ ⟨p', c', rfl⟩; exact k p' c')
variable {j : Nat}
theorem A2m {H : List (Nat × Nat)} {fuel : Nat} {listed l' : List Bool} {sz : Nat} [hI : I4 P t i] [hEl : I4 P el ie] [hE : Y1 P el sz by' zs] {m : Nat} {H' : List (Nat × Nat)}
  (hi : ops[j]? = some ⟨some d, .call ⟨.builtin .append, ⟨[x, y]⟩, ⟨[t, t]⟩⟩, ty, pos, af, gd⟩) (hd' : i.desc = .slice el)
  (hd : Nat.blt d Γ.n = true) (hx : evo env x = some (.slice p n c)) (hy : evo env y = some (.slice q m c2)) (hsz : Nat.blt 0 sz = true)
  (hm : ∀ p' c', Sw hp (.slc p c el sz n cs) (.slc p' c' el sz (n + m) (cs ++ news)) (hp' p' c'))
  (hS : Sl G q m c2 sz news) (h1 : ∀ u ∈ news, u.oneCell' = true) (hc : n ≤ c)
  (h63 : n + m ≤ maxLen) (hb : (n + m) * by' ≤ 140737488355328) (hw : M6 ops env gd = some true) (hl : listed.set j true = l')
  (hok : B3 ops j hp G (.slc p c el sz n cs) H H')
  (k : ∀ p' c', N4 P Γ ops K H' fuel l' ⟨(d, .slice p' (n + m) c') :: env, hp' p' c', G⟩) : W6 P Γ ops K H fuel listed j ⟨env, hp, G⟩ :=
 A4s hi (B0y hd' hd hx hy hsz hm hS h1 hc h63 hb) hw hl (fun _ _ hs => hok.spec hs) hok.filter (by rintro _ ⟨p', c', rfl⟩; exact k p' c')
variable {post : IM → Value → List A9 → Prop} {vs : List Value} {f : FuncId}
theorem Z9 {H H' : List (Nat × Nat)} {fuel : Nat} {listed l' : List Bool} [hF : C1 P f] {xs : List Operand} {ats : Array TypeId} {e : A9} {rst : List A9}
  (hi : ops[j]? = some ⟨some d, .call ⟨.value (.func f), ⟨xs⟩, ats⟩, ty, pos, af, gd⟩) (hx : evl env xs = some vs) (h : Fn P f vs [e] G post) (hp' : hp.Perm ([e] ++ rst)) (hw : M6 ops env gd = some true) (hd : Nat.blt d Γ.n = true) (hl : listed.set j true = l')
  (hok : B3 ops j hp G e H H')
  (k : ∀ v G' outs, C3 G G' → post G' v outs → N4 P Γ ops K H' fuel l' ⟨(d, v) :: env, outs ++ rst, G'⟩) : W6 P Γ ops K H fuel listed j ⟨env, hp, G⟩ :=
 A4s hi (A5p hx h hp' hd) hw hl (fun _ _ hs => by simpa [Fp] using hok.spec hs) hok.filter (by rintro _ ⟨v, G', outs, rfl, hle, hq⟩; exact k v G' outs hle hq)
end
section forget
variable {P : Program} {Γ : M5} {env : M8} {hp : List A9} {G : IM} {K : Po} {ops : Array Oper} {rest : List Oper} {ty : TypeId} {pos : String} {af : Array Edge} {gd : Option (Nat × Bool)}
end forget
def tAt : Tm → List Int → Option Tm
 | t, [] => some t
 | .mk _ _ _ _ _ _ ks, i :: is => if h : 0 ≤ i ∧ i < ks.length then tAt (ks[i.toNat]'zO0) is else none
def z9 : List Value := [.int .i64 0, .string ⟨⟨[]⟩⟩, .int .i64 0, .int .i64 0, .slice none 0 0, .int .i64 0, .slice none 0 0, .int .i64 0, .slice none 0 0]
def AtP (t : Tm) (path : List Int) (G : IM) : IM → Value → List A9 → Prop := fun G' v outs => G' = G ∧ outs = [] ∧
 ((∃ x cells, tAt t path = some x ∧ B7 G x cells ∧ v = .tuple ⟨[.agg ⟨cells⟩, .bool true]⟩) ∨ (tAt t path = none ∧ v = .tuple ⟨[.agg ⟨z9⟩, .bool false]⟩))
def L7 : Tm := .mk 0 ⟨⟨[]⟩⟩ 0 (.mk 0 []) (.mk 0 []) 0 []
theorem Q6.zero (G : IM) : Q6 G L7 z9 [] := by
 simp only [L7, Q6, R5, O5, O6, z9]
 refine ⟨[.int .i64 0, .slice none 0 0], [.int .i64 0, .slice none 0 0], none, 0, [], [], [], [], rfl, ⟨by omega, by omega⟩, ⟨by omega, by omega⟩, ⟨by omega, by omega⟩, ?_, ?_, D7.nil _ _, ⟨rfl, rfl⟩, rfl, by simp [K0]⟩
 ·exact ⟨none, 0, [], [], rfl, ⟨by omega, by omega⟩, D7.nil _ _, ⟨rfl, rfl⟩, rfl, by simp [K0]⟩
 ·exact ⟨none, 0, [], [], rfl, ⟨by omega, by omega⟩, D7.nil _ _, ⟨rfl, rfl⟩, rfl, by simp [K0]⟩
def C0x (t : Tm) (path : List Int) : Tm × Bool := if P7 t = true then (match tAt t path with | some x => (x, true) | none => (L7, false)) else (L7, false)
def TbP (r : Tm × Bool) (G : IM) : IM → Value → List A9 → Prop := M3 fun G' v => ∃ cells F, v = .tuple ⟨[.agg ⟨cells⟩, .bool r.2]⟩ ∧ Q6 (E8 G' G) r.1 cells F ∧ F.Nodup
section take
variable {P : Program} {Γ : M5} {env : M8} {hp : List A9} {G : IM} {K : Po} {ops : Array Oper} {rest : List Oper} {ty : TypeId} {pos : String} {af : Array Edge} {gd : Option (Nat × Bool)}
variable {post : IM → Value → List A9 → Prop} {vs : List Value} {f : FuncId} {d : Nat}
theorem K4 [hF : C1 P f] {xs : List Operand} {ats : Array TypeId} {ins rst : List A9}
  (hx : evl env xs = some vs) (h : Fn P f vs ins G post) (hp' : hp.Perm (ins ++ rst)) (hw : M6 ops env gd = some true) (hd : Nat.blt d Γ.n = true)
  (k : ∀ v G' outs, C3 G G' → post G' v outs → J2 P Γ ops rest K ⟨(d, v) :: env, outs ++ rst, G'⟩) : J2 P Γ ops (⟨some d, .call ⟨.value (.func f), ⟨xs⟩, ats⟩, ty, pos, af, gd⟩ :: rest) K ⟨env, hp, G⟩ :=
 J0 (A5p hx h hp' hd) hw (by rintro _ ⟨v, G', outs, rfl, hle, hq⟩; exact k v G' outs hle hq)
end take
theorem A0F (G : IM) (br : Nat) (pb : Option Addr) (nb cb p : Nat) (bs : List UInt8) (q : Option Addr) (n c : Nat) (xs : List Value) (hb : Sl G pb nb cb 1 (O7 bs)) (hnb : nb ≤ 2000) (hp : p < 1099511627776) (hx : Sl G q n c 1 xs) (hn : 0 < n) :
  Fn prog 106 [.pointer (some ⟨br, 0, none⟩), .slice q n c] [rd br pb nb cb p] G (fun G' v outs => G' = G ∧ outs = [rd br pb nb cb (p + 1)] ∧ v ∈ xs) := by
 refine C4 func106 rfl ntmps106 results106 rfl ?_
 intro w0
 exact y15
theorem A7y (G : IM) (br : Nat) (pb : Option Addr) (nb cb p : Nat) (bs : List UInt8) (q : Option Addr) (n c : Nat) (xs : List Value) (hb : Sl G pb nb cb 1 (O7 bs)) (hnb : nb ≤ 2000) (hp : p < 1099511627776) (hx : Sl G q n c 1 xs) (hn : 0 < n) :
  Fn prog 142 [.pointer (some ⟨br, 0, none⟩), .slice q n c] [rd br pb nb cb p] G (fun G' v outs => G' = G ∧ outs = [rd br pb nb cb (p + 1)] ∧ v ∈ xs) := by
 refine C4 func142 rfl ntmps142 results142 rfl ?_
 intro w0
 exact y15
theorem A2n (G : IM) : Fn prog 54 [] [] G (I1 (.agg ⟨[.int .i64 1, .slice none 0 0]⟩) G) := by
 refine C4 func54 rfl ntmps54 results54 rfl ?_
 intro w0
 exact y17
def dB : Nat → Nat
 | 0 => 0
 | d + 1 => 2 * dB d + 2
variable {d : Nat}
theorem B55 (h : d ≤ 3) : dB (d + 1) ≤ 30 := by
 have : d = 0 ∨ d = 1 ∨ d = 2 ∨ d = 3 := by omega
 rcases this with rfl | rfl | rfl | rfl <;> decide
theorem B56 (k : Int) : V9 k ≤ 2 := by
 unfold V9; split <;> try split
 all_goals omega
theorem A5V : ∀ (ts : List Ty) (t : Ty), P8 (ts ++ [t]) = P8 ts + L3 t
 | [], t => by simp [P8]
 | a :: ts, t => by simp only [List.cons_append, P8, A5V ts t]; omega
variable {n c : Nat} {p : Option Addr} {es : List (List Value)} {G : IM}
theorem E7.ty {k : Int} {ts : List Ty} (h : E7 G ts es) (hn : ts.length = n) (hs : Sl G p n c 2 es.flatten) (hk : F8 k) : C6 G (.mk k ts) [.int .i64 k, .slice p n c] := by
 subst hn
 simp only [C6]
 exact ⟨p, c, es, rfl, hk, D7.of hs h.len h.all (fun e he => (h.each e he).2), h⟩
theorem A4M (br : Nat) (pb : Option Addr) (nb cb : Nat) (bs : List UInt8) (hnb : nb ≤ 2000) : ∀ (d p : Nat) (G : IM), d ≤ 1000 → Sl G pb nb cb 1 (O7 bs) → p + dB (d + 1) < 1099511627776 →
  Fn prog 144 [.pointer (some ⟨br, 0, none⟩), .int .i64 ((d + 1 : Nat) : Int)] [rd br pb nb cb p] G
   (A0J br pb nb cb p (dB (d + 1)) (fun G' v => ∃ t cells, v = .agg ⟨cells⟩ ∧ C6 G' t cells ∧ L3 t ≤ ((dB (d + 1) : Nat) : Int) ∧ R6 d t)) := by
 refine fun d => Nat.strongRecOn d fun d ih p G hd hb hp => ?_
 rw [dB] at hp ⊢
 refine C4 func144 rfl ntmps144 results144 rfl ?_
 intro w0
 refine A5 ?_
 refine zf1 (fun b3 => ?_)
 refine B1 ?_
 refine zf7 (fun b9 => ?_)
 (refine V7 zB0 (fun G1 hle1 hsl1 _ => ?_); refine K4 rfl (A0F G1 br pb nb cb p bs _ _ _ _ (hb.mono hle1) hnb zO0 hsl1 zN0) (Pk.perm zB0) rfl rfl (fun v G2 outs hle2 hh => ?_); obtain ⟨rfl, rfl, hv⟩ := hh; replace hb := hb.mono hle1; obtain ⟨k, rfl, hk1⟩ : ∃ k, v = .int .i64 k ∧ 1 ≤ k ∧ k ≤ 5 := (by simp only [List.mem_cons, List.not_mem_nil, or_false] at hv; rcases hv with rfl | rfl | rfl | rfl | rfl | rfl | rfl <;> exact ⟨_, rfl, by decide, by decide⟩))
 refine B1 ?_
 (have hv' := hv; refine P4 (fun (x : Bool) => ⟨(16, .bool x) :: [(5, .int .i64 k), (4, .pointer (some ⟨b3, 0, none⟩)), (0, .pointer (some ⟨br, 0, none⟩)), (1, .int .i64 ((d + 1 : Nat) : Int))], [rd br pb nb cb (p + 1), .blk b3 [.int .i64 0, .slice none 0 0]], G2⟩) (fun x => x = false → d = 0 → k < 4) ?_ ?_)
 refine A5 ?_
 refine zf8 (fun h19 => ?_) (fun h19 => ?_)
 refine A5 ?_
 refine sB (A1g rfl rfl) rfl rfl (fun h22 => ?_) (fun h22 => ?_)
 refine A5 ?_
 refine E2 true (D6 zA0 zQ) ?_
 (show _ = false → d = 0 → k < 4; intro hf h0; first | exact absurd hf zN0 | omega)
 refine A5 ?_
 refine E2 false (D6 zA0 zQ) ?_
 (show _ = false → d = 0 → k < 4; intro hf h0; first | exact absurd hf zN0 | omega)
 refine B1 ?_
 refine E2 false (D6 zA0 zQ) ?_
 (show _ = false → d = 0 → k < 4; intro hf h0; first | exact absurd hf zN0 | omega)
 (rintro x hx; clear hv)
 (show J9 _ _ (.cond (.tmp 16) _ _) _ _; refine P4 (fun (x : Int) => ⟨[(5, .int .i64 x), (4, .pointer (some ⟨b3, 0, none⟩)), (0, .pointer (some ⟨br, 0, none⟩)), (1, .int .i64 ((d + 1 : Nat) : Int))], [rd br pb nb cb (p + 1), .blk b3 [.int .i64 0, .slice none 0 0]], G2⟩) (fun x => 1 ≤ x ∧ x ≤ 5 ∧ (d = 0 → x < 4)) (A4n rfl (fun hxt => ?_) (fun hxf => ?_)) ?_)
 refine B5 ?_
 refine E2 1 (D6 zA0 zQ) ?_
 (first | exact ⟨by omega, by omega, by omega⟩ | exact ⟨by omega, by omega, fun h0 => by have := hx hxf h0; omega⟩)
 refine tK ?_
 refine E2 k (D6 zA0 zQ) ?_
 (first | exact ⟨by omega, by omega, by omega⟩ | exact ⟨by omega, by omega, fun h0 => by have := hx hxf h0; omega⟩)
 (rintro kk ⟨hk2, hk3, hk4⟩; have hop := B56 kk; have hk5 := (T5 kk).1; have hk6 := (T5 kk).2.1; have hK := A98 kk)
 refine B6 ?_
 refine zf1 (fun b53 => ?_)
 refine E1 ?_
 refine C2 ?_
 (refine V1 25 2 ?_; refine K2 (fun (x : Nat × Option Addr × Nat × List Ty × List (List Value) × Nat × IM) => ⟨[(7, .int .i64 x.1), (5, .int .i64 kk), (6, .pointer (some ⟨b53, 0, none⟩)), (4, .pointer (some ⟨b3, 0, none⟩)), (0, .pointer (some ⟨br, 0, none⟩)), (1, .int .i64 ((d + 1 : Nat) : Int))], [.blk b53 [.int .i64 kk, .slice x.2.1 x.1 x.2.2.1], .slc x.2.1 x.2.2.1 25 2 x.1 x.2.2.2.2.1.flatten, rd br pb nb cb x.2.2.2.2.2.1, .blk b3 [.int .i64 0, .slice none 0 0]], x.2.2.2.2.2.2⟩) (fun x => (∀ u ∈ x.2.2.2.1, R6 (d - 1) u) ∧ (x.1 : Int) ≤ V9 kk ∧ C3 G2 x.2.2.2.2.2.2 ∧ x.2.2.2.1.length = x.1 ∧ E7 x.2.2.2.2.2.2 x.2.2.2.1 x.2.2.2.2.1 ∧ P8 x.2.2.2.1 ≤ ((x.1 * dB d : Nat) : Int) ∧ p + 1 ≤ x.2.2.2.2.2.1 ∧ x.2.2.2.2.2.1 ≤ p + 1 + x.1 * dB d) (fun x => (V9 kk).toNat - x.1) (0, none, 0, [], [], p + 1, G2) ?_ ?_ ?_)
 (simp only [J5]; exact E3)
 (exact ⟨by simp, by dsimp only; omega, C3.refl _, rfl, by simp [E7], by simp [P8], by dsimp only; omega, by dsimp only; omega⟩)
 (rintro ⟨i, pn, cn, ts, es', p', Gi⟩ ⟨hah, hi, hle, hlt, hst, hsum, hq1, hq2⟩; simp only [] at hah hi hle hlt hst hsum hq1 hq2 ⊢; have hid : i * dB d ≤ 2 * dB d := Nat.mul_le_mul_right _ zO0)
 refine B1 ?_
 refine F0 rfl ((hK _)) rfl rfl ?_
 refine zf8 (fun h74 => ?_) (fun h74 => ?_)
 refine A7 ?_
 refine C2 ?_
 (obtain ⟨d', rfl⟩ : ∃ d', d = d' + 1 := ⟨d - 1, by omega⟩; have hih := ih d' zO0 p' Gi zO0 (hb.mono hle) (by have := Nat.mul_le_mul_right (dB (d' + 1)) (show i + 1 ≤ 2 by omega); rw [Nat.succ_mul] at this; omega); refine zdd D9 rfl ?_)
 refine xx4 0 1 2 3 ?_
 refine aP 4 rfl (A5E rfl rfl zO0) rfl ?_
 refine A2 5 ?_
 (refine Z9 (l' := [tt,tt,tt,tt,tt,tt,ff,ff,ff,ff]) rfl rfl hih (Pk.perm zB0) rfl rfl rfl zK (fun v G3 outs hle3 hh => ?_); obtain ⟨p3, hp31, hp32, rfl, t3, cells3, rfl, hr3, hs3, ha3⟩ := hh; obtain ⟨q3, c3, es3, rfl, _⟩ := hr3.open)
 refine A2 6 ?_
 refine zf3 (fun b91 => ?_)
 refine A2 7 ?_
 refine R4 rfl rfl rfl rfl rfl rfl (fun _ _ => by repeat (first | exact Sw.here | apply Sw.there)) (O4 zG0) rfl zI0 zJ0 zO0 rfl rfl zK (fun pn' cn' => ?_)
 refine xx1 8 ?_
 refine A2 9 ?_
 refine R8 rfl rfl rfl rfl rfl rfl rfl rfl zM0 zC0 (by rfl) ?_
 refine B1 ?_
 refine zf4 ?_
 refine A5 ?_
 refine J7 (i + 1, pn', cn', ts ++ [t3], es' ++ [[.int .i64 t3.k, .slice q3 t3.ks.length c3]], p3, G3) ?_ ?_ ?_
 (simp only [J5]; exact E3)
 (dsimp only; have e1 : (i + 1) * dB (d' + 1) = i * dB (d' + 1) + dB (d' + 1) := Nat.succ_mul _ _; have e2 := A5V ts t3; exact ⟨by simp only [List.forall_mem_append, List.forall_mem_singleton]; exact ⟨hah, ha3⟩, by omega, hle.trans hle3, by simp [hlt], E7.snoc (hst.mono hle3) hr3, by omega, by omega, by omega⟩)
 (show (V9 kk).toNat - (i + 1) < (V9 kk).toNat - i; omega)
 refine K5 ?_
 (refine H1 zB0 (fun G5 hle5 hsl5 hno5 => ?_))
 refine tT ?_
 refine I6 (outs := [rd br pb nb cb p']) (rC rfl (A4 rfl rfl)) zW ?_
 (refine ⟨p', by omega, by omega, rfl, .mk kk ts, _, rfl, (hst.mono hle5).ty hlt hsl5 ⟨by omega, by omega⟩, ?_, B5O hk4 zO0 hk2 hk3 hah⟩; rw [L3]; omega)
theorem B0z (br : Nat) (pb : Option Addr) (nb cb : Nat) (bs : List UInt8) (hnb : nb ≤ 2000) (d p : Nat) (G : IM) (hd : d ≤ 1000) (hb : Sl G pb nb cb 1 (O7 bs)) (hp : p + dB (d + 1) < 1099511627776) :
  Fn prog 144 [.pointer (some ⟨br, 0, none⟩), .int .i64 ((d + 1 : Nat) : Int)] [rd br pb nb cb p] G
   (A0J br pb nb cb p (dB (d + 1)) (fun G' v => ∃ t cells, v = .agg ⟨cells⟩ ∧ C6 G' t cells ∧ L3 t ≤ ((dB (d + 1) : Nat) : Int))) :=
 (A4M br pb nb cb bs hnb d p G hd hb hp).mono fun G' v outs _ ⟨p', h1, h2, h3, t, cells, h4, h5, h6, _⟩ => ⟨p', h1, h2, h3, t, cells, h4, h5, h6⟩
theorem B57 (br : Nat) (pb : Option Addr) (nb cb : Nat) (bs : List UInt8) (hnb : nb ≤ 2000) (p : Nat) (G : IM) (hb : Sl G pb nb cb 1 (O7 bs)) (hp : p + 31 < 1099511627776) :
  Fn prog 100 [.pointer (some ⟨br, 0, none⟩)] [rd br pb nb cb p] G
   (A0J br pb nb cb p 31 (fun G' v => ∃ t cells, v = .agg ⟨cells⟩ ∧ C6 G' t cells ∧ L3 t ≤ 30 ∧ R6 3 t)) := by
 refine C4 func100 rfl ntmps100 results100 rfl ?_
 intro w0
 refine A5 ?_
 refine zf1 (fun b3 => ?_)
 refine A7 ?_
 refine zf7 (fun b10 => ?_)
 (refine V7 zB0 (fun G1 hle1 hsl1 _ => ?_); refine K4 rfl (A0F G1 br pb nb cb p bs _ _ _ _ (hb.mono hle1) hnb zO0 hsl1 zN0) (Pk.perm zB0) rfl rfl (fun v G2 outs hle2 hh => ?_); obtain ⟨rfl, rfl, hv⟩ := hh; replace hb := hb.mono hle1; obtain ⟨d, rfl, hd⟩ : ∃ d : Nat, v = .int .i64 ((d + 1 : Nat) : Int) ∧ d ≤ 3 := (by simp only [List.mem_cons, List.not_mem_nil, or_false] at hv; rcases hv with rfl | rfl | rfl | rfl | rfl <;> first | exact ⟨0, rfl, by decide⟩ | exact ⟨1, rfl, by decide⟩ | exact ⟨2, rfl, by decide⟩ | exact ⟨3, rfl, by decide⟩))
 (have hdB := B55 hd; refine K4 rfl (A4M br pb nb cb bs hnb d (p + 1) G2 zO0 hb zO0) (Pk.perm zB0) rfl rfl (fun v G3 outs hle3 hh => ?_); obtain ⟨p3, hp31, hp32, rfl, t3, cells3, rfl, hr3, hs3, ha3⟩ := hh; obtain ⟨q3, c3, es3, rfl, _⟩ := hr3.open)
 refine B6 ?_
 refine I6 (outs := [rd br pb nb cb p3]) (rC rfl (A4 rfl rfl)) zW ?_
 exact ⟨p3, by omega, by omega, rfl, t3, _, rfl, hr3, by omega, ha3.le hd⟩
theorem B58 (br : Nat) (pb : Option Addr) (nb cb : Nat) (bs : List UInt8) (hnb : nb ≤ 2000) (p : Nat) (G : IM) (hb : Sl G pb nb cb 1 (O7 bs)) (hp : p + 31 < 1099511627776) :
  Fn prog 100 [.pointer (some ⟨br, 0, none⟩)] [rd br pb nb cb p] G
   (A0J br pb nb cb p 31 (fun G' v => ∃ t cells, v = .agg ⟨cells⟩ ∧ C6 G' t cells ∧ L3 t ≤ 30)) :=
 (B57 br pb nb cb bs hnb p G hb hp).mono fun G' v outs _ ⟨p', h1, h2, h3, t, cells, h4, h5, h6, _⟩ => ⟨p', h1, h2, h3, t, cells, h4, h5, h6⟩
theorem B59 (k : Int) (ks : List Ty) (G : IM) (p : Option Addr) (c : Nat) (hts : (Ty.mk k ks).small) (hr : C6 G (.mk k ks) [.int .i64 k, .slice p ks.length c]) : Fn prog 105 [.agg ⟨[.int .i64 k, .slice p ks.length c]⟩] [] G
  (fun G' v outs => ∃ p c es, v = .agg ⟨[.int .i64 k, .slice p ks.length c]⟩ ∧ outs = [.slc p c 25 2 ks.length es.flatten] ∧ E7 G' ks es) := by
 simp only [Ty.small] at hts
 obtain ⟨hsm, hks⟩ := hts
 obtain ⟨p', c', es, he, hk, hsl, hkl⟩ := hr.open
 simp only [Ty.k, Ty.ks, List.cons.injEq, Value.slice.injEq, true_and, and_true] at he hk hsl hkl
 obtain ⟨rfl, rfl⟩ := he
 have hn := hsl.le
 refine C4 func105 rfl ntmps105 results105 rfl ?_
 intro w0
 refine A5 ?_
 refine zf2 (fun b3 => ?_)
 refine zf1 (fun b4 => ?_)
 refine B8 ?_
 refine zf1 (fun b12 => ?_)
 refine E1 ?_
 refine C2 ?_
 (refine V1 25 2 ?_; refine K2 (fun (x : Nat × Option Addr × Nat × List (List Value) × IM) => ⟨[(4, .int .i64 x.1), (3, .pointer (some ⟨b12, 0, none⟩)), (1, .pointer (some ⟨b3, 0, none⟩)), (2, .pointer (some ⟨b4, 0, none⟩))], [.blk b12 [.int .i64 k, .slice x.2.1 x.1 x.2.2.1], .slc x.2.1 x.2.2.1 25 2 x.1 x.2.2.2.1.flatten, .blk b4 [.int .i64 0, .slice none 0 0], .blk b3 [.int .i64 k, .slice p ks.length c]], x.2.2.2.2⟩) (fun x => x.1 ≤ ks.length ∧ C3 G x.2.2.2.2 ∧ E7 x.2.2.2.2 (ks.take x.1) x.2.2.2.1) (fun x => ks.length - x.1) (0, none, 0, [], G) ?_ ?_ ?_)
 (simp only [J5]; exact E3)
 exact ⟨by simp, C3.refl _, by simp [E7]⟩
 (rintro ⟨i, pn, cn, es', Gi⟩ ⟨hi, hle, hst⟩; simp only [] at hi hle hst ⊢; replace hsl := hsl.mono hle; replace hkl := hkl.mono hle)
 refine B8 ?_
 refine zf8 (fun h34 => ?_) (fun h34 => ?_)
 refine A7 ?_
 refine C2 ?_
 (obtain ⟨b, o, p2, c2, rfl, hat, hre, hgb⟩ := hsl.kidTy hkl (i := i) zO0 zO0; refine zdd D9 rfl ?_)
 refine xx5 0 1 2 3 4 ?_
 refine aP 5 rfl (B2 rfl rfl rfl zO0) rfl ?_
 refine aL 6 rfl (A3 rfl rfl (hat _) rfl) rfl ?_
 refine A2 7 ?_
 (refine E6 rfl rfl (W3 ks[i] _ _ (Ty.smallL_mem hks _ (List.getElem_mem zO0)) hre) rfl rfl rfl (fun v G1 hle1 hh => ?_); obtain ⟨cells', F', rfl, hs', hnd'⟩ := hh; have hr' := hs'.R.mono (E8.le _ _); obtain ⟨p3, c3, es3, rfl, _⟩ := hr'.open)
 refine A2 8 ?_
 refine zf3 (fun b53 => ?_)
 refine A2 9 ?_
 refine R4 rfl rfl rfl rfl rfl rfl (fun _ _ => by repeat (first | exact Sw.here | apply Sw.there)) (O4 zG0) rfl zI0 zJ0 zO0 rfl rfl zK (fun pn' cn' => ?_)
 refine xx1 10 ?_
 refine A2 11 ?_
 refine R8 rfl rfl rfl rfl rfl rfl rfl rfl zM0 zC0 (by rfl) ?_
 refine B1 ?_
 refine zf4 ?_
 refine A5 ?_
 refine J7 (i + 1, pn', cn', es' ++ [[.int .i64 ks[i].k, .slice p3 ks[i].ks.length c3]], G1) ?_ ?_ ?_
 (simp only [J5]; exact E3)
 (dsimp only; exact ⟨by omega, hle.trans hle1, by rw [List.take_succ_eq_append_getElem zO0]; exact E7.snoc (hst.mono hle1) hr'⟩)
 (show ks.length - (i + 1) < ks.length - i; omega)
 refine K1 ?_
 (obtain rfl : i = ks.length := zO0; refine I6 (outs := [.slc pn cn 25 2 ks.length es'.flatten]) (rC rfl (A4 rfl rfl)) zW ?_)
 (rw [List.take_length] at hst; exact ⟨pn, cn, es', rfl, rfl, hst⟩)
theorem A06 (G : IM) : C6 G R1 [.int .i64 1, .slice none 0 0] := by
 simp only [R1, C6]
 exact ⟨none, 0, [], rfl, ⟨by omega, by omega⟩, D7.of (Sl.nil _ _) rfl zP0 zP0, by simp [E7]⟩
theorem A7z : L3 R1 = 0 := rfl
theorem B6a (br : Nat) (pb : Option Addr) (nb cb : Nat) (bs : List UInt8) (hnb : nb ≤ 2000) (p : Nat) (G : IM) (hb : Sl G pb nb cb 1 (O7 bs)) (hp : p + 31 < 1099511627776) (t : Ty) (cells : List Value) (hr : C6 G t cells) (hsz : L3 t ≤ 30) :
  Fn prog 107 [.pointer (some ⟨br, 0, none⟩), .agg ⟨cells⟩] [rd br pb nb cb p] G
   (A0J br pb nb cb p 2 (fun G' v => ∃ t cells, v = .agg ⟨cells⟩ ∧ C6 G' t cells ∧ L3 t ≤ 38)) := by
 have hts := A4F t zO0
 obtain ⟨k, ks⟩ := t
 rw [L3] at hsz
 have hsn := A2M ks
 obtain ⟨q0, c0, es0, rfl, hk, _⟩ := hr.open
 simp only [Ty.k, Ty.ks] at hk hr ⊢
 refine C4 func107 rfl ntmps107 results107 rfl ?_
 intro w0
 refine A5 ?_
 refine zf2 (fun b3 => ?_)
 refine zf1 (fun b4 => ?_)
 refine B1 ?_
 (refine A2e rfl (B59 k ks G q0 c0 hts hr) rfl rfl (fun v G1 outs hle1 hh => ?_); obtain ⟨q, c, es, rfl, rfl, hst⟩ := hh)
 refine zf1 (fun b11 => ?_)
 refine B8 ?_
 (refine K4 rfl (A0i G1 br pb nb cb p bs 40 (hb.mono hle1) hnb zO0) (Pk.perm zB0) rfl rfl (fun v G2 outs hle2 hh => ?_); obtain ⟨rfl, rfl, j, rfl, hj0, hj1⟩ := hh; replace hb := hb.mono hle1)
 refine A5 ?_
 (show J9 _ _ (.block 0 _) _ _; refine P4 (fun (x : Ty × Option Addr × Nat × Nat × IM) => ⟨[(5, .pointer (some ⟨b11, 0, none⟩)), (4, .pointer (some ⟨b4, 0, none⟩))], [.blk b11 [.int .i64 x.1.k, .slice x.2.1 x.1.ks.length x.2.2.1], .blk b4 [.int .i64 0, .slice none 0 0], rd br pb nb cb x.2.2.2.1], x.2.2.2.2⟩) (fun x => C3 G2 x.2.2.2.2 ∧ C6 x.2.2.2.2 x.1 [.int .i64 x.1.k, .slice x.2.1 x.1.ks.length x.2.2.1] ∧ L3 x.1 ≤ 38 ∧ p ≤ x.2.2.2.1 ∧ x.2.2.2.1 ≤ p + 2) ?_ ?_)
 refine C2 (tS (tR (sB (qE rfl rfl) rfl rfl (fun h26 => ?_) (fun h26 => ?_))))
 refine A7 ?_
 refine zf7 (fun b33 => ?_)
 (refine V7 zB0 (fun G3 hle3 hsl3 _ => ?_); refine V7 zB0 (fun G4 hle4 hsl4 _ => ?_); refine K4 rfl (A0F G4 br pb nb cb (p + 1) bs _ _ _ _ (hb.mono (hle3.trans hle4)) hnb zO0 (hsl3.mono hle4) zN0) (Pk.perm zB0) rfl rfl (fun v G5 outs hle5 hh => ?_); obtain ⟨rfl, rfl, hv⟩ := hh; obtain ⟨k', rfl, hk'⟩ : ∃ k', v = .int .i64 k' ∧ F8 k' := (by simp only [List.mem_cons, List.not_mem_nil, or_false] at hv; rcases hv with rfl | rfl | rfl | rfl | rfl <;> exact ⟨_, rfl, by unfold F8; omega⟩))
 refine B6 ?_
 refine E2 (.mk k' ks, q, c, p + 2, G5) ?_ ?_
 (simp only [J5]; exact E3)
 (dsimp only; exact ⟨hle3.trans hle4, (hst.mono (hle3.trans hle4)).ty rfl hsl4 hk', by (rw [L3]; omega), by omega, by omega⟩)
 refine A7 ?_
 refine zf0 (fun h48 => ?_) (fun h48 => ?_)
 refine B6 ?_
 refine zf6 ?_
 refine xx2 0 1 ?_
 refine A2 2 ?_
 refine M9 rfl rfl ((A2n _)) rfl rfl rfl ?_
 refine A2 3 ?_
 refine zf3 (fun b59 => ?_)
 refine A2 4 ?_
 refine R4 rfl rfl rfl rfl rfl rfl (fun _ _ => by repeat (first | exact Sw.here | apply Sw.there)) (O4 zG0) rfl zI0 zJ0 zO0 rfl rfl zK (fun qn cn => ?_)
 (refine A5s (cs := es.flatten ++ [.int .i64 1, .slice none 0 0]) zB0 (fun G6 hle6 hsl6 _ => ?_))
 refine xx1 5 ?_
 refine A2 6 ?_
 refine R8 rfl rfl rfl rfl rfl rfl rfl rfl zM0 zC0 (by rfl) ?_
 refine A5 ?_
 refine E2 (.mk k (ks ++ [R1]), qn, cn, p + 1, G6) (by rw [show (Ty.mk k (ks ++ [R1])).ks.length = ks.length + 1 from by simp [Ty.ks]]; exact E3) ?_
 (dsimp only; refine ⟨hle6, E7.ty (ts := ks ++ [R1]) (es := es ++ [[.int .i64 1, .slice none 0 0]]) (E7.snoc (hst.mono hle6) (A06 _)) rfl (by simpa [Ty.ks] using hsl6) hk, ?_, by omega, by omega⟩; rw [L3, A5V, A7z, List.length_append]; simp only [List.length_singleton]; omega)
 refine A7 ?_
 refine zf0 (fun h76 => ?_) (fun h76 => ?_)
 refine E1 ?_
 refine C2 ?_
 (refine A2F zB0 (fun G3 hle3 hsl3 _ => ?_); refine K2 (fun (x : Nat × Ty × Option Addr × Nat × IM) => ⟨[(6, .int .i64 x.1), (5, .pointer (some ⟨b11, 0, none⟩)), (4, .pointer (some ⟨b4, 0, none⟩))], [.blk b11 [.int .i64 x.2.1.k, .slice x.2.2.1 x.2.1.ks.length x.2.2.2.1], .blk b4 [.int .i64 0, .slice none 0 0], rd br pb nb cb (p + 1)], x.2.2.2.2⟩) (fun x => x.1 ≤ 4 ∧ C3 G3 x.2.2.2.2 ∧ C6 x.2.2.2.2 x.2.1 [.int .i64 x.2.1.k, .slice x.2.2.1 x.2.1.ks.length x.2.2.2.1] ∧ L3 x.2.1 ≤ 30 + 2 * x.1) (fun x => 4 - x.1) (0, .mk k ks, q, c, G3) ?_ ?_ ?_)
 (simp only [J5]; exact E3)
 (dsimp only; exact ⟨by omega, C3.refl _, (hst.mono hle3).ty rfl hsl3 hk, by (rw [L3]; omega)⟩)
 (rintro ⟨i, ⟨tk, tks⟩, qi, ci, Gi⟩ ⟨hi, hlei, hri, hsi⟩; simp only [Ty.k, Ty.ks] at hi hlei hri hsi ⊢)
 refine B6 ?_
 refine zf8 (fun h95 => ?_) (fun h95 => ?_)
 refine A7 ?_
 refine C2 ?_
 refine zf6 ?_
 refine xx1 1 ?_
 refine A2 0 ?_
 refine M9 rfl rfl ((A2n _)) rfl rfl rfl ?_
 refine A2 2 ?_
 refine zf3 (fun b108 => ?_)
 (refine A5s (cs := [.int .i64 1, .slice none 0 0, .int .i64 tk, .slice qi tks.length ci]) zB0 (fun G7 hle7 hsl7 _ => ?_))
 refine xx1 3 ?_
 refine A2 4 ?_
 refine R8 rfl rfl rfl rfl rfl rfl rfl rfl zM0 zC0 (by rfl) ?_
 refine B1 ?_
 refine zf4 ?_
 refine A5 ?_
 refine J7 (i + 1, .mk 4 [R1, .mk tk tks], some ⟨b108, 0, none⟩, 2, G7) ?_ ?_ ?_
 (simp only [J5]; exact E3)
 (dsimp only; refine ⟨by omega, hlei.trans hle7, E7.ty (ts := [R1, .mk tk tks]) (es := [[.int .i64 1, .slice none 0 0], [.int .i64 tk, .slice qi tks.length ci]]) ⟨_, _, rfl, A06 _, _, _, rfl, hri.mono hle7, rfl⟩ rfl hsl7 ⟨by omega, by omega⟩, ?_⟩; rw [L3, P8, P8, P8, A7z]; simp only [List.length_cons, List.length_nil]; omega)
 (show 4 - (i + 1) < 4 - i; omega)
 refine D4 ?_
 refine E2 (.mk tk tks, qi, ci, p + 1, Gi) ?_ ?_
 (simp only [J5]; exact E3)
 (dsimp only; exact ⟨hle3.trans hlei, hri, by omega, by omega, by omega⟩)
 refine B6 ?_
 (refine A2F zB0 (fun G8 hle8 hsl8 _ => ?_); refine tK ?_)
 refine I0 ?_
 refine E2 (.mk k ks, q, c, p + 1, G8) ?_ ?_
 (simp only [J5]; exact E3)
 (dsimp only; exact ⟨hle8, (hst.mono hle8).ty rfl hsl8 hk, by (rw [L3]; omega), by omega, by omega⟩)
 (rintro ⟨t', q', c', p', G'⟩ ⟨hle9, hr9, hs9, hp9, hp9'⟩; simp only [] at hle9 hr9 hs9 hp9 hp9' ⊢)
 refine B8 ?_
 refine I6 (outs := [rd br pb nb cb p']) (rC rfl (A4 rfl rfl)) zW ?_
 (exact ⟨p', by omega, by omega, rfl, t', _, rfl, hr9, by omega⟩)
mutual
def B6b : Tm → Tm
 | .mk k nm num ty fr lb ks => if k = 13 ∨ k = 14 then (A7A ks).headD L7 else .mk k nm num (if k = 5 then R1 else C5) C5 0 (A7A ks)
def A7A : List Tm → List Tm
 | [] => []
 | t :: ts => B6b t :: A7A ts
end
def C0y : Tm → Tm
 | .mk k nm num ty fr lb ks => if k = 13 ∨ k = 14 then ks.headD L7 else if k = 5 then .mk k nm num R1 fr lb ks else .mk k nm num ty fr lb ks
def C0z : Tm → Prop
 | .mk k _ _ _ _ _ ks => k = 13 ∨ k = 14 → ks ≠ []
theorem A2S {t : Ty} (h : Y4 t = true) : t = C5 := by
 obtain ⟨k, ks⟩ := t
 obtain ⟨h1, h2⟩ : (Ty.mk k ks).k = 0 ∧ (Ty.mk k ks).ks.length = 0 := of_decide_eq_true h
 simp only [Ty.k, Ty.ks] at h1 h2
 have h3 : ks = [] := List.length_eq_zero_iff.1 zO0
 rw [h3, C5]
 congr
theorem A07 {D N : Int} {k : Int} {nm : ByteArray} {num : Int} {ty fr : Ty} {lb : Int} {ks : List Tm} {d : Int} (h : O9 D N (.mk k nm num ty fr lb ks) d = true) : d ≤ D ∧ k ≠ N ∧ X0 k nm num ty fr lb ks.length = true ∧ P0 D N ks (d + 1) = true := by
 rw [O9] at h
 simp only [Bool.and_eq_true, decide_eq_true_eq] at h
 exact ⟨h.1.1.1, h.1.1.2, h.1.2, h.2⟩
section slaws
variable {P : Program} {Γ : M5} {env : M8} {hp : List A9} {G : IM} {ty : TypeId}
variable {l : Nat}
theorem A5W {P : Program} {w : World} (hl : l ≤ c) (code : BoundsCode) : (Instr.sliceBound (.int .i64 (l : Int)) c code).run P w = .ok l w := by
 unfold Instr.sliceBound
 simp only [asIntOf, Sem.run_bind, Sem.run_pure, Result.andThen_ok]
 rw [if_pos ⟨by omega, by omega⟩]
 simp
variable {s : ByteArray} {i : L8} {t : TypeId} {x y : Operand}
theorem A7B {z : Operand} [hI : I4 P t i] (hd' : i.desc = .string) {h : Nat}
  (hx : evo env x = some (.string s)) (hy : evo env y = some (.int .i64 (l : Int))) (hz : evo env z = some (.int .i64 (h : Int))) (hl : l ≤ h) (hh : h ≤ s.size) :
  J6 P Γ ⟨env, hp, G⟩ (.slice t x (some y) (some z) none) ty (.string (s.extract l h)) := by
 refine ⟨fun a _ hs _ _ _ _ w => ?_⟩
 have hu := hI.und
 rw [hd'] at hu
 simp [execOp, (hs.evo hx : a.eval x = _), (hs.evo hy : a.eval y = _), (hs.evo hz : a.eval z = _), Instr.sliceAt, Sem.run_bind, run_underlying hu, Instr.slice, Instr.sliceBounds, A5W hl, A5W hh]
theorem B0A {z : Operand} [hI : I4 P t i] (hd' : i.desc = .string) {h : Nat}
  (hx : evo env x = some (.string s)) (hz : evo env z = some (.int .i64 (h : Int))) (hh : h ≤ s.size) :
  J6 P Γ ⟨env, hp, G⟩ (.slice t x none (some z) none) ty (.string (s.extract 0 h)) := by
 refine ⟨fun a _ hs _ _ _ _ w => ?_⟩
 have hu := hI.und
 rw [hd'] at hu
 simp [execOp, (hs.evo hx : a.eval x = _), (hs.evo hz : a.eval z = _), Instr.sliceAt, Sem.run_bind, run_underlying hu, Instr.slice, Instr.sliceBounds, A5W hh]
theorem B0B [hI : I4 P t i] (hd' : i.desc = .string)
  (hx : evo env x = some (.string s)) (hy : evo env y = some (.int .i64 (l : Int))) (hl : l ≤ s.size) :
  J6 P Γ ⟨env, hp, G⟩ (.slice t x (some y) none none) ty (.string (s.extract l s.size)) := by
 refine ⟨fun a _ hs _ _ _ _ w => ?_⟩
 have hu := hI.und
 rw [hd'] at hu
 simp [execOp, (hs.evo hx : a.eval x = _), (hs.evo hy : a.eval y = _), Instr.sliceAt, Sem.run_bind, run_underlying hu, Instr.slice, Instr.sliceBounds, A5W hl]
theorem B6c {t' : TypeId} {r : ByteArray} (hx : evo env x = some (.string r)) (hy : evo env y = some (.string s)) :
  J6 P Γ ⟨env, hp, G⟩ (.binOp .lss t x y t') ty (.bool (decide (Op.bytesLess r.toList s.toList = true))) := by
 refine ⟨fun a _ hs _ _ _ _ w => ?_⟩
 simp only [execOp, eqGuard, binOp, Op.stringOp, (hs.evo hx : a.eval x = _), (hs.evo hy : a.eval y = _)]
 simp
end slaws
theorem B6d (s nm : ByteArray) (G : IM) (hs : s.size ≤ 1000) (hn : nm.size ≤ 1000) :
  Fn prog 200 [.string s, .string nm] [] G (fun G' v outs => G' = G ∧ outs = [] ∧ ∃ r, v = .string r ∧ r.size ≤ s.size + nm.size) := by
 refine C4 func200 rfl ntmps200 results200 rfl ?_
 intro w0
 refine J3 ?_
 refine C2 ?_
 (refine K2 (fun (i : Nat) => ⟨[(5, .int .i64 (i : Int)), (0, .string s), (1, .string nm)], [], G⟩) (fun i => i ≤ s.size) (fun i => s.size - i) 0 ?_ ?_ ?_)
 exact E3
 exact Nat.zero_le _
 (intro i hi)
 refine B1 ?_
 refine sQ (A28 rfl rfl) rfl (sB (J8 rfl rfl) rfl rfl (fun h23 => ?_) (fun h23 => ?_))
 refine B6 ?_
 refine sP (A2j (n := 1) rfl rfl zO0) rfl rfl ?_
 refine sP (A7B (h := i + 1) rfl rfl rfl rfl zO0 zO0) rfl rfl ?_
 refine I0 ?_
 refine sB (B6c rfl rfl) rfl rfl (fun h31 => ?_) (fun h31 => ?_)
 refine A7 ?_
 refine C2 ?_
 refine A5 ?_
 refine sP (A2j (n := 1) rfl rfl zO0) rfl rfl ?_
 refine B5 ?_
 refine J7 (i + 1) ?_ ?_ ?_
 exact E3
 (show _ ≤ s.size; omega)
 (show s.size - _ < s.size - _; omega)
 refine K5 ?_
 refine sQ (A28 rfl rfl) rfl ?_
 refine sP (B4s rfl rfl zO0) rfl rfl ?_
 refine B6 ?_
 refine sP (A2j (n := 1) rfl rfl zO0) rfl rfl ?_
 refine sP (A7B (h := i + 1) rfl rfl rfl rfl zO0 zO0) rfl rfl ?_
 refine I0 ?_
 refine sB (A1h rfl rfl) rfl rfl (fun h72 => ?_) (fun h72 => ?_)
 refine P3 ?_
 refine I6 (outs := []) (rT rfl) A1.nil ?_
 (exact ⟨rfl, rfl, _, rfl, Nat.le_add_right _ _⟩)
 refine B8 ?_
 exact y14
 refine A2H ?_
 refine sQ (A28 rfl rfl) rfl ?_
 refine sP (A3H rfl rfl zO0) rfl rfl ?_
 refine K1 ?_
 exact y14
theorem A1n (G : IM) : C6 G C5 [.int .i64 0, .slice none 0 0] := by
 simp only [C5, C6]
 exact ⟨none, 0, [], rfl, ⟨by omega, by omega⟩, D7.of (Sl.nil _ _) rfl zP0 zP0, by simp [E7]⟩
theorem A7C : L3 C5 = 0 := rfl
variable {q : Option Addr}
theorem H4.tm {k : Int} {nm : ByteArray} {num : Int} {t : Ty} {ts : List Tm} (h : H4 G ts es) (hn : ts.length = n) (hs : Sl G p n c 9 es.flatten) (hk : F8 k) (hm : F8 num)
  (ht : C6 G t [.int .i64 t.k, .slice q t.ks.length d]) : B7 G (.mk k nm num t C5 0 ts) [.int .i64 k, .string nm, .int .i64 num, .int .i64 t.k, .slice q t.ks.length d, .int .i64 0, .slice none 0 0, .int .i64 0, .slice p n c] := by
 subst hn
 simp only [B7]
 exact ⟨_, _, p, c, es, rfl, hk, hm, ⟨by omega, by omega⟩, ht, A1n G, D7.of hs h.len h.all (fun e he => (h.each e he).2), h⟩
theorem A2o {k : Int} {nm : ByteArray} {num : Int} (hk : F8 k) (hm : F8 num) :
  B7 G (.mk k nm num C5 C5 0 []) [.int .i64 k, .string nm, .int .i64 num, .int .i64 0, .slice none 0 0, .int .i64 0, .slice none 0 0, .int .i64 0, .slice none 0 0] :=
 H4.tm (ts := []) (es := []) (t := C5) (by simp [H4]) rfl (Sl.nil _ _) hk hm (A1n G)
theorem A2T (k : Int) (nm : ByteArray) (num : Int) : A0I (.mk k nm num C5 C5 0 []) = nm.size := by
 rw [A0I, A7C, Z8]; simp
theorem A7D : ∀ (ts : List Tm) (t : Tm), Z8 (ts ++ [t]) = Z8 ts + A0I t
 | [], t => by simp [Z8]
 | a :: ts, t => by simp only [List.cons_append, Z8, A7D ts t]; omega
theorem A1G (k : Int) : E4 k ≤ 3 := by
 unfold E4; repeat (split; omega)
 omega
theorem A7E (h : d ≤ 2) : dB (d + 1) ≤ 14 := by
 have : d = 0 ∨ d = 1 ∨ d = 2 := by omega
 rcases this with rfl | rfl | rfl <;> decide
theorem A3g (n : Int) (G : IM) : Fn prog 98 [.int .i64 n] [] G (I1 (.agg ⟨[.int .i64 2, .string ⟨⟨[]⟩⟩, .int .i64 n, .int .i64 0, .slice none 0 0, .int .i64 0, .slice none 0 0, .int .i64 0, .slice none 0 0]⟩) G) := by
 refine C4 func98 rfl ntmps98 results98 rfl ?_
 intro w0
 refine A5 ?_
 refine zf1 (fun b3 => ?_)
 refine I9 ?_
 refine zf9 ?_
 exact ⟨rfl, rfl, rfl⟩
theorem B0C (br : Nat) (pb : Option Addr) (nb cb : Nat) (bs : List UInt8) (hnb : nb ≤ 2000) (p : Nat) (G : IM) (hb : Sl G pb nb cb 1 (O7 bs)) (hp : p + 3 < 1099511627776) (s : ByteArray) (hs : s.size ≤ 1000) :
  Fn prog 199 [.pointer (some ⟨br, 0, none⟩), .string s] [rd br pb nb cb p] G
   (A0J br pb nb cb p 3 (fun G' v => ∃ t cells, v = .agg ⟨cells⟩ ∧ B7 G' t cells ∧ A0I t ≤ 1)) := by
 refine C4 func199 rfl ntmps199 results199 rfl ?_
 intro w0
 refine A5 ?_
 refine zf1 (fun b3 => ?_)
 refine A7 ?_
 refine sQ (A28 rfl rfl) rfl ?_
 refine zf17 (fun h11 => ?_) (fun h11 => ?_)
 refine A5 ?_
 (refine K4 rfl (A0i _ br pb nb cb p bs _ hb hnb zO0) (Pk.perm zB0) rfl rfl (fun v14 G14 outs14 hle14 hh => ?_); obtain ⟨rfl, rfl, j14, rfl, hj14, hk14⟩ := hh; obtain ⟨i14, rfl⟩ := Int.eq_ofNat_of_zero_le hj14)
 replace hb := hb.mono hle14
 refine zf17 (fun h15 => ?_) (fun h15 => ?_)
 refine D4 ?_
 refine sQ (A28 rfl rfl) rfl ?_
 (refine K4 rfl (A0i _ br pb nb cb (p + 1) bs _ hb hnb zO0) (Pk.perm zB0) rfl rfl (fun v25 G25 outs25 hle25 hh => ?_); obtain ⟨rfl, rfl, j25, rfl, hj25, hk25⟩ := hh; obtain ⟨i25, rfl⟩ := Int.eq_ofNat_of_zero_le hj25)
 replace hb := hb.mono hle25
 refine D4 ?_
 refine sP (A2j (n := 1) rfl rfl zO0) rfl rfl ?_
 refine sP (A7B rfl rfl rfl rfl zO0 zO0) rfl rfl ?_
 refine A7 ?_
 refine I6 (outs := [rd br pb nb cb (p + 1 + 1)]) (rC rfl (A4 rfl rfl)) zN ?_
 focus (refine ⟨_, ?_, ?_, rfl, _, _, rfl, A2o ⟨by omega, by omega⟩ ⟨by omega, by omega⟩, ?_⟩; all_goals (try rw [A2T]); all_goals (first | omega | (simp only [ByteArray.size_extract]; omega) | decide))
 refine I9 ?_
 (refine K4 rfl (A0i _ br pb nb cb (p + 1) bs _ hb hnb zO0) (Pk.perm zB0) rfl rfl (fun v54 G54 outs54 hle54 hh => ?_); obtain ⟨rfl, rfl, j54, rfl, hj54, hk54⟩ := hh; obtain ⟨i54, rfl⟩ := Int.eq_ofNat_of_zero_le hj54)
 replace hb := hb.mono hle54
 refine A5 ?_
 refine C2 (tS (tR (sB (qE rfl rfl) rfl rfl (fun h60 => ?_) (fun h60 => ?_))))
 refine K7 ?_
 refine I6 (outs := [rd br pb nb cb (p + 1 + 1)]) (rC rfl (A4 rfl rfl)) zN ?_
 focus (refine ⟨_, ?_, ?_, rfl, _, _, rfl, A2o ⟨by omega, by omega⟩ ⟨by omega, by omega⟩, ?_⟩; all_goals (try rw [A2T]); all_goals (first | omega | (simp only [ByteArray.size_extract]; omega) | decide))
 refine A7 ?_
 refine zf0 (fun h82 => ?_) (fun h82 => ?_)
 refine K7 ?_
 refine I6 (outs := [rd br pb nb cb (p + 1 + 1)]) (rC rfl (A4 rfl rfl)) zN ?_
 focus (refine ⟨_, ?_, ?_, rfl, _, _, rfl, A2o ⟨by omega, by omega⟩ ⟨by omega, by omega⟩, ?_⟩; all_goals (try rw [A2T]); all_goals (first | omega | (simp only [ByteArray.size_extract]; omega) | decide))
 refine I9 ?_
 refine zf7 (fun b108 => ?_)
 (refine V7 zB0 (fun Gf hlef hslf _ => ?_); refine K4 rfl (A0F Gf br pb nb cb (p + 1 + 1) bs _ _ _ _ (hb.mono hlef) hnb zO0 hslf zN0) (Pk.perm zB0) rfl rfl (fun v Gn outs hlen hh => ?_); obtain ⟨rfl, rfl, hv⟩ := hh; obtain ⟨kn, rfl, hkn⟩ : ∃ k, v = .int .i64 k ∧ F8 k := zP)
 refine F0 rfl ((A3g _ _)) rfl rfl ?_
 refine B6 ?_
 refine I6 (outs := [rd br pb nb cb (p + 1 + 1 + 1)]) (rC rfl (A4 rfl rfl)) zN ?_
 focus (refine ⟨_, ?_, ?_, rfl, _, _, rfl, A2o ⟨by omega, by omega⟩ hkn, ?_⟩; all_goals (try rw [A2T]); all_goals (first | omega | decide))
 refine K5 ?_
 (refine K4 rfl (A0i _ br pb nb cb p bs _ hb hnb zO0) (Pk.perm zB0) rfl rfl (fun v131 G131 outs131 hle131 hh => ?_); obtain ⟨rfl, rfl, j131, rfl, hj131, hk131⟩ := hh; obtain ⟨i131, rfl⟩ := Int.eq_ofNat_of_zero_le hj131)
 replace hb := hb.mono hle131
 refine A5 ?_
 refine C2 (tS (tR (sB (qE rfl rfl) rfl rfl (fun h137 => ?_) (fun h137 => ?_))))
 refine K7 ?_
 refine I6 (outs := [rd br pb nb cb (p + 1)]) (rC rfl (A4 rfl rfl)) zN ?_
 focus (refine ⟨_, ?_, ?_, rfl, _, _, rfl, A2o ⟨by omega, by omega⟩ ⟨by omega, by omega⟩, ?_⟩; all_goals (try rw [A2T]); all_goals (first | omega | (simp only [ByteArray.size_extract]; omega) | decide))
 refine A7 ?_
 refine zf0 (fun h159 => ?_) (fun h159 => ?_)
 refine K7 ?_
 refine I6 (outs := [rd br pb nb cb (p + 1)]) (rC rfl (A4 rfl rfl)) zN ?_
 focus (refine ⟨_, ?_, ?_, rfl, _, _, rfl, A2o ⟨by omega, by omega⟩ ⟨by omega, by omega⟩, ?_⟩; all_goals (try rw [A2T]); all_goals (first | omega | (simp only [ByteArray.size_extract]; omega) | decide))
 refine I9 ?_
 refine zf7 (fun b185 => ?_)
 (refine V7 zB0 (fun Gf hlef hslf _ => ?_); refine K4 rfl (A0F Gf br pb nb cb (p + 1) bs _ _ _ _ (hb.mono hlef) hnb zO0 hslf zN0) (Pk.perm zB0) rfl rfl (fun v Gn outs hlen hh => ?_); obtain ⟨rfl, rfl, hv⟩ := hh; obtain ⟨kn, rfl, hkn⟩ : ∃ k, v = .int .i64 k ∧ F8 k := zP)
 refine F0 rfl ((A3g _ _)) rfl rfl ?_
 refine B6 ?_
 refine I6 (outs := [rd br pb nb cb (p + 1 + 1)]) (rC rfl (A4 rfl rfl)) zN ?_
 focus (refine ⟨_, ?_, ?_, rfl, _, _, rfl, A2o ⟨by omega, by omega⟩ hkn, ?_⟩; all_goals (try rw [A2T]); all_goals (first | omega | decide))
def tB : Nat → Nat
 | 0 => 3
 | d + 1 => 3 * tB d + 20
theorem B0D (d : Nat) : 3 ≤ tB d := by cases d <;> simp only [tB] <;> omega
theorem B6e (br : Nat) (pb : Option Addr) (nb cb : Nat) (bs : List UInt8) (hnb : nb ≤ 2000) : ∀ (d p : Nat) (G : IM) (s : ByteArray), d ≤ 900 → s.size + d ≤ 950 → Sl G pb nb cb 1 (O7 bs) → p + tB d < 1099511627776 →
  Fn prog 185 [.pointer (some ⟨br, 0, none⟩), .string s, .int .i64 ((d + 1 : Nat) : Int)] [rd br pb nb cb p] G
   (A0J br pb nb cb p (tB d) (fun G' v => ∃ t cells, v = .agg ⟨cells⟩ ∧ B7 G' t cells ∧ A0I t ≤ ((tB d : Nat) : Int))) := by
 refine fun d => Nat.strongRecOn d fun d ih p G s hd hs hb hp => ?_
 have hge := B0D d
 refine C4 func185 rfl ntmps185 results185 rfl ?_
 intro w0
 refine A5 ?_
 refine zf1 (fun b3 => ?_)
 refine A7 ?_
 refine zf8 (fun h10 => ?_) (fun h10 => ?_)
 ·refine P3 ?_
  (refine K4 rfl (B0C br pb nb cb bs hnb p _ hb zO0 s zO0) (Pk.perm zB0) rfl rfl (fun v Ga outs hlea hh => ?_); obtain ⟨pa, hpa1, hpa2, rfl, ta, cellsa, rfl, hra, hsa⟩ := hh; have hl9 := hra.len; have ho9 := hra.one)
  refine sS rfl rfl rfl hl9 ho9 rfl ?_ (hu := by exact E0 hl9.symm)
  refine B6 ?_
  refine I6 (outs := [rd br pb nb cb pa]) (rC rfl (A3 rfl rfl (B9 zG0) hl9)) zN ?_
  (exact ⟨pa, by omega, by omega, rfl, ta, cellsa, rfl, hra, by omega⟩)
 ·refine A5 ?_
  (have hB4 : 4 ≤ tB d := (by obtain ⟨d1, rfl⟩ : ∃ d1, d = d1 + 1 := ⟨d - 1, by omega⟩; simp only [tB]; have := B0D d1; omega); refine K4 rfl (A0i _ br pb nb cb p bs _ hb hnb zO0) (Pk.perm zB0) rfl rfl (fun v33 G33 outs33 hle33 hh => ?_); obtain ⟨rfl, rfl, j33, rfl, hj33, hk33⟩ := hh)
  replace hb := hb.mono hle33
  refine zf0 (fun h34 => ?_) (fun h34 => ?_)
  ·refine D4 ?_
   (refine K4 rfl (B0C br pb nb cb bs hnb (p + 1) _ hb zO0 s zO0) (Pk.perm zB0) rfl rfl (fun v Ga outs hlea hh => ?_); obtain ⟨pa, hpa1, hpa2, rfl, ta, cellsa, rfl, hra, hsa⟩ := hh; have hl9 := hra.len; have ho9 := hra.one)
   refine sS rfl rfl rfl hl9 ho9 rfl ?_ (hu := by exact E0 hl9.symm)
   refine B6 ?_
   refine I6 (outs := [rd br pb nb cb pa]) (rC rfl (A3 rfl rfl (B9 zG0) hl9)) zN ?_
   (exact ⟨pa, by omega, by omega, rfl, ta, cellsa, rfl, hra, by omega⟩)
  ·refine E1 ?_
   refine zf7 (fun b60 => ?_)
   (refine V7 zB0 (fun Gf hlef hslf _ => ?_); refine K4 rfl (A0F Gf br pb nb cb (p + 1) bs _ _ _ _ (hb.mono hlef) hnb zO0 hslf zN0) (Pk.perm zB0) rfl rfl (fun v Gk outs hlek hh => ?_); obtain ⟨rfl, rfl, hv⟩ := hh; replace hb := hb.mono hlef; obtain ⟨k, rfl, hk1, hk2⟩ : ∃ k, v = .int .i64 k ∧ 5 ≤ k ∧ k ≤ 13 := (by simp only [List.mem_cons, List.not_mem_nil, or_false] at hv; rcases hv with rfl | rfl | rfl | rfl | rfl | rfl | rfl | rfl | rfl | rfl | rfl <;> exact ⟨_, rfl, by decide, by decide⟩); obtain ⟨d1, rfl⟩ : ∃ d1, d = d1 + 1 := ⟨d - 1, by omega⟩; have hB : tB (d1 + 1) = 3 * tB d1 + 20 := rfl)
   refine B8 ?_
   refine zf1 (fun b69 => ?_)
   refine B8 ?_
   refine zf0 (fun h77 => ?_) (fun h77 => ?_)
   ·refine A5 ?_
    (show J9 _ _ (.cond (.tmp 26) _ _) _ _; refine P4 (fun (x : ByteArray × ByteArray × Nat × IM) => ⟨[(7, .int .i64 k), (8, .pointer (some ⟨b69, 0, none⟩)), (6, .pointer (some ⟨b3, 0, none⟩)), (0, .pointer (some ⟨br, 0, none⟩)), (1, .string x.2.1), (2, .int .i64 ((d1 + 1 + 1 : Nat) : Int))], [.blk b69 [.int .i64 k, .string x.1, .int .i64 0, .int .i64 0, .slice none 0 0, .int .i64 0, .slice none 0 0, .int .i64 0, .slice none 0 0], .blk b3 zq9, rd br pb nb cb x.2.2.1], x.2.2.2⟩) (fun x => C3 Gk x.2.2.2 ∧ x.1.size ≤ 1 ∧ x.2.1.size ≤ s.size + 1 ∧ p + 2 ≤ x.2.2.1 ∧ x.2.2.1 ≤ p + 3) ?_ ?_)
    ·refine B6 ?_
     refine zf7 (fun b85 => ?_)
     (refine V7 zB0 (fun Gf2 hlef2 hslf2 _ => ?_); refine K4 rfl (A7y Gf2 br pb nb cb (p + 1 + 1) bs _ _ _ _ (hb.mono hlef2) hnb zO0 hslf2 zN0) (Pk.perm zB0) rfl rfl (fun v Go outs hleo hh => ?_); obtain ⟨rfl, rfl, hv2⟩ := hh; obtain ⟨nmA, rfl, hnA⟩ : ∃ nm, v = .string nm ∧ nm.size ≤ 1 := (by simp only [List.mem_cons, List.not_mem_nil, or_false] at hv2; rcases hv2 with rfl | rfl | rfl | rfl <;> exact ⟨_, rfl, by decide⟩))
     refine D4 ?_
     (refine A2e rfl (B6d s nmA _ zO0 zO0) rfl rfl (fun v Ga outs hlea hh => ?_); obtain ⟨rfl, rfl, sA, rfl, hsA⟩ := hh)
     refine A5 ?_
     refine E2 (nmA, sA, p + 1 + 1 + 1, Ga) (D6 zA0 zQ) ?_
     (dsimp only; exact ⟨hlef2, hnA, by omega, by omega, by omega⟩)
    ·(rintro ⟨(nm : ByteArray), s', p1, G1⟩ ⟨hleA, hnm, hss, hpA, hpB⟩; simp only [] at hleA hnm hss hpA hpB ⊢; replace hb := hb.mono hleA; have hmark := hleA)
     refine A5 ?_
     (have hm' := hmark; refine P4 (fun (x : Bool) => ⟨(40, .bool x) :: [(7, .int .i64 k), (8, .pointer (some ⟨b69, 0, none⟩)), (6, .pointer (some ⟨b3, 0, none⟩)), (0, .pointer (some ⟨br, 0, none⟩)), (1, .string s'), (2, .int .i64 ((d1 + 1 + 1 : Nat) : Int))], [.blk b69 [.int .i64 k, .string nm, .int .i64 0, .int .i64 0, .slice none 0 0, .int .i64 0, .slice none 0 0, .int .i64 0, .slice none 0 0], .blk b3 zq9, rd br pb nb cb p1], G1⟩) (fun x => True) ?_ ?_)
     ·refine A5 ?_
      refine zf12 ?_
      refine B1 ?_
      refine E2 true (D6 zA0 zQ) ?_
      trivial
     ·(rintro x _; clear hmark)
      (show J9 _ _ (.cond (.tmp 40) _ _) _ _; refine P4 (fun (x : Ty × Option Addr × Nat × Nat × IM) => ⟨[(7, .int .i64 k), (8, .pointer (some ⟨b69, 0, none⟩)), (6, .pointer (some ⟨b3, 0, none⟩)), (0, .pointer (some ⟨br, 0, none⟩)), (1, .string s'), (2, .int .i64 ((d1 + 1 + 1 : Nat) : Int))], [.blk b69 [.int .i64 k, .string nm, .int .i64 0, .int .i64 x.1.k, .slice x.2.1 x.1.ks.length x.2.2.1, .int .i64 0, .slice none 0 0, .int .i64 0, .slice none 0 0], .blk b3 zq9, rd br pb nb cb x.2.2.2.1], x.2.2.2.2⟩) (fun x => C3 G1 x.2.2.2.2 ∧ C6 x.2.2.2.2 x.1 [.int .i64 x.1.k, .slice x.2.1 x.1.ks.length x.2.2.1] ∧ L3 x.1 ≤ 14 ∧ p1 ≤ x.2.2.2.1 ∧ x.2.2.2.1 ≤ p1 + 15) (A4n rfl (fun hxt => ?_) (fun hxf => ?_)) ?_)
      ·refine B5 ?_
       refine zf7 (fun b119 => ?_)
       (refine V7 zB0 (fun Gf hlef3 hslf _ => ?_); refine K4 rfl (A0F Gf br pb nb cb p1 bs _ _ _ _ (hb.mono hlef3) hnb zO0 hslf zN0) (Pk.perm zB0) rfl rfl (fun v Gn outs hlen hh => ?_); obtain ⟨rfl, rfl, hv⟩ := hh; replace hb := hb.mono hlef3; obtain ⟨dd, rfl, hdd⟩ : ∃ d : Nat, v = .int .i64 ((d + 1 : Nat) : Int) ∧ d ≤ 2 := zL)
       (have hdB := A7E hdd; refine K4 rfl (B0z br pb nb cb bs hnb dd (p1 + 1) _ zO0 hb zO0) (Pk.perm zB0) rfl rfl (fun v G3 outs hle3 hh => ?_); obtain ⟨p3, hp31, hp32, rfl, t3, cells3, rfl, hr3, hs3⟩ := hh; obtain ⟨q3, c3, es3, rfl, _⟩ := hr3.open)
       refine B5 ?_
       refine E2 (t3, q3, c3, p3, G3) (D6 zA0 zQ) ?_
       (dsimp only; exact ⟨hlef3.trans hle3, hr3, by omega, by omega, by omega⟩)
      ·refine tK ?_
       refine E2 (C5, none, 0, p1, G1) (D6 zA0 zQ) ?_
       (dsimp only; exact ⟨C3.refl _, A1n _, by decide, by omega, by omega⟩)
      ·(rintro ⟨(t' : Ty), q', c', p2, G2⟩ ⟨hleB, hrB, hsB, hpC, hpD⟩; simp only [] at hleB hrB hsB hpC hpD ⊢; replace hb := hb.mono hleB; have hop := A1G k; have hK := A5O k)
       refine A7 ?_
       refine C2 ?_
       (refine V1 28 9 ?_; refine K2 (fun (x : Nat × Option Addr × Nat × List Tm × List (List Value) × Nat × IM) => ⟨[(9, .int .i64 x.1), (7, .int .i64 k), (8, .pointer (some ⟨b69, 0, none⟩)), (6, .pointer (some ⟨b3, 0, none⟩)), (0, .pointer (some ⟨br, 0, none⟩)), (1, .string s'), (2, .int .i64 ((d1 + 1 + 1 : Nat) : Int))], [.blk b69 [.int .i64 k, .string nm, .int .i64 0, .int .i64 t'.k, .slice q' t'.ks.length c', .int .i64 0, .slice none 0 0, .int .i64 0, .slice x.2.1 x.1 x.2.2.1], .slc x.2.1 x.2.2.1 28 9 x.1 x.2.2.2.2.1.flatten, rd br pb nb cb x.2.2.2.2.2.1, .blk b3 zq9], x.2.2.2.2.2.2⟩) (fun x => ((x.1 : Int) ≤ E4 k ∨ x.1 = 0) ∧ C3 G2 x.2.2.2.2.2.2 ∧ x.2.2.2.1.length = x.1 ∧ H4 x.2.2.2.2.2.2 x.2.2.2.1 x.2.2.2.2.1 ∧ Z8 x.2.2.2.1 ≤ ((x.1 * tB d1 : Nat) : Int) ∧ p2 ≤ x.2.2.2.2.2.1 ∧ x.2.2.2.2.2.1 ≤ p2 + x.1 * tB d1) (fun x => (E4 k).toNat - x.1) (0, none, 0, [], [], p2, G2) ?_ ?_ ?_)
       ·(simp only [J5]; exact E3)
       ·(exact ⟨.inr rfl, C3.refl _, rfl, by simp [H4], by simp [Z8], by dsimp only; omega, by dsimp only; omega⟩)
       ·(rintro ⟨i, pn, cn, ts, es', p', Gi⟩ ⟨hi, hle, hlt, hst, hsum, hq1, hq2⟩; simp only [] at hi hle hlt hst hsum hq1 hq2 ⊢; have hid : i * tB d1 ≤ 3 * tB d1 := Nat.mul_le_mul_right _ zO0)
        refine B1 ?_
        refine F0 rfl ((hK _)) rfl rfl ?_
        refine zf8 (fun h148 => ?_) (fun h148 => ?_)
        ·refine A7 ?_
         refine C2 ?_
         (have hih := ih d1 zO0 p' Gi s' zO0 zO0 (hb.mono hle) (by have := Nat.mul_le_mul_right (tB d1) (show i + 1 ≤ 3 by omega); rw [Nat.succ_mul] at this; omega); refine zdd D9 rfl ?_)
         refine xx5 0 1 2 3 4 ?_
         refine aP 5 rfl (A5E rfl rfl zO0) rfl ?_
         refine A2 6 ?_
         (refine Z9 (l' := [tt,tt,tt,tt,tt,tt,tt,ff,ff,ff,ff]) rfl rfl hih (Pk.perm zB0) rfl rfl rfl zK (fun v G3 outs hle3 hh => ?_); obtain ⟨p3, hp31, hp32, rfl, t3, cells3, rfl, hr3, hs3⟩ := hh; obtain ⟨qt, dt, et, qf, df, ef, q3, d3, es3, rfl, _⟩ := hr3.open)
         refine A2 7 ?_
         refine zf3 (fun b166 => ?_)
         refine A2 8 ?_
         refine R4 rfl rfl rfl rfl rfl rfl (fun _ _ => by repeat (first | exact Sw.here | apply Sw.there)) (O4 zG0) rfl zI0 zJ0 zO0 rfl rfl zK (fun pn' cn' => ?_)
         refine xx1 9 ?_
         refine A2 10 ?_
         refine R8 rfl rfl rfl rfl rfl rfl rfl rfl zM0 zC0 (by rfl) ?_
         refine B1 ?_
         refine zf4 ?_
         refine A5 ?_
         refine J7 (i + 1, pn', cn', ts ++ [t3], es' ++ [[.int .i64 t3.k, .string t3.nm, .int .i64 t3.num, .int .i64 t3.ty.k, .slice qt t3.ty.ks.length dt, .int .i64 t3.fr.k, .slice qf t3.fr.ks.length df, .int .i64 t3.lb, .slice q3 t3.ks.length d3]], p3, G3) ?_ ?_ ?_
         ·(simp only [J5]; exact E3)
         ·(dsimp only; have e1 : (i + 1) * tB d1 = i * tB d1 + tB d1 := Nat.succ_mul _ _; have e2 := A7D ts t3; exact ⟨.inl zO0, hle.trans hle3, by simp [hlt], H4.snoc (hst.mono hle3) hr3, by omega, by omega, by omega⟩)
         ·(show (E4 k).toNat - (i + 1) < (E4 k).toNat - i; omega)
        ·refine K5 ?_
         (refine H1 zB0 (fun G5 hle5 hsl5 hno5 => ?_))
         refine tT ?_
         refine I6 (outs := [rd br pb nb cb p']) (rC rfl (A4 rfl rfl)) zN ?_
         (refine ⟨p', by omega, by omega, rfl, .mk k nm 0 t' C5 0 ts, _, rfl, (hst.mono hle5).tm hlt hsl5 ⟨by omega, by omega⟩ ⟨by omega, by omega⟩ (hrB.mono (hle.trans hle5)), ?_⟩; rw [A0I, A7C]; omega)
   ·refine A5 ?_
    (show J9 _ _ (.cond (.tmp 26) _ _) _ _; refine P4 (fun (x : ByteArray × ByteArray × Nat × IM) => ⟨[(7, .int .i64 k), (8, .pointer (some ⟨b69, 0, none⟩)), (6, .pointer (some ⟨b3, 0, none⟩)), (0, .pointer (some ⟨br, 0, none⟩)), (1, .string x.2.1), (2, .int .i64 ((d1 + 1 + 1 : Nat) : Int))], [.blk b69 [.int .i64 k, .string x.1, .int .i64 0, .int .i64 0, .slice none 0 0, .int .i64 0, .slice none 0 0, .int .i64 0, .slice none 0 0], .blk b3 zq9, rd br pb nb cb x.2.2.1], x.2.2.2⟩) (fun x => C3 Gk x.2.2.2 ∧ x.1.size ≤ 1 ∧ x.2.1.size ≤ s.size + 1 ∧ p + 2 ≤ x.2.2.1 ∧ x.2.2.1 ≤ p + 3) ?_ ?_)
    ·refine A5 ?_
     refine E2 (⟨⟨[]⟩⟩, s, p + 1 + 1, Gk) (D6 zA0 zQ) ?_
     (dsimp only; exact ⟨C3.refl _, by decide, by omega, by omega, by omega⟩)
    ·(rintro ⟨(nm : ByteArray), s', p1, G1⟩ ⟨hleA, hnm, hss, hpA, hpB⟩; simp only [] at hleA hnm hss hpA hpB ⊢; replace hb := hb.mono hleA; have hmark := hleA)
     refine A5 ?_
     (have hm' := hmark; refine P4 (fun (x : Bool) => ⟨(40, .bool x) :: [(7, .int .i64 k), (8, .pointer (some ⟨b69, 0, none⟩)), (6, .pointer (some ⟨b3, 0, none⟩)), (0, .pointer (some ⟨br, 0, none⟩)), (1, .string s'), (2, .int .i64 ((d1 + 1 + 1 : Nat) : Int))], [.blk b69 [.int .i64 k, .string nm, .int .i64 0, .int .i64 0, .slice none 0 0, .int .i64 0, .slice none 0 0, .int .i64 0, .slice none 0 0], .blk b3 zq9, rd br pb nb cb p1], G1⟩) (fun x => True) ?_ ?_)
     ·refine A5 ?_
      refine zf11 ?_
      refine A5 ?_
      refine zf0 (fun h218 => ?_) (fun h218 => ?_)
      ·refine A5 ?_
       refine E2 true (D6 zA0 zQ) ?_
       trivial
      ·refine A5 ?_
       refine E2 false (D6 zA0 zQ) ?_
       trivial
     ·(rintro x _; clear hmark)
      (show J9 _ _ (.cond (.tmp 40) _ _) _ _; refine P4 (fun (x : Ty × Option Addr × Nat × Nat × IM) => ⟨[(7, .int .i64 k), (8, .pointer (some ⟨b69, 0, none⟩)), (6, .pointer (some ⟨b3, 0, none⟩)), (0, .pointer (some ⟨br, 0, none⟩)), (1, .string s'), (2, .int .i64 ((d1 + 1 + 1 : Nat) : Int))], [.blk b69 [.int .i64 k, .string nm, .int .i64 0, .int .i64 x.1.k, .slice x.2.1 x.1.ks.length x.2.2.1, .int .i64 0, .slice none 0 0, .int .i64 0, .slice none 0 0], .blk b3 zq9, rd br pb nb cb x.2.2.2.1], x.2.2.2.2⟩) (fun x => C3 G1 x.2.2.2.2 ∧ C6 x.2.2.2.2 x.1 [.int .i64 x.1.k, .slice x.2.1 x.1.ks.length x.2.2.1] ∧ L3 x.1 ≤ 14 ∧ p1 ≤ x.2.2.2.1 ∧ x.2.2.2.1 ≤ p1 + 15) (A4n rfl (fun hxt => ?_) (fun hxf => ?_)) ?_)
      ·refine B5 ?_
       refine zf7 (fun b232 => ?_)
       (refine V7 zB0 (fun Gf hlef3 hslf _ => ?_); refine K4 rfl (A0F Gf br pb nb cb p1 bs _ _ _ _ (hb.mono hlef3) hnb zO0 hslf zN0) (Pk.perm zB0) rfl rfl (fun v Gn outs hlen hh => ?_); obtain ⟨rfl, rfl, hv⟩ := hh; replace hb := hb.mono hlef3; obtain ⟨dd, rfl, hdd⟩ : ∃ d : Nat, v = .int .i64 ((d + 1 : Nat) : Int) ∧ d ≤ 2 := zL)
       (have hdB := A7E hdd; refine K4 rfl (B0z br pb nb cb bs hnb dd (p1 + 1) _ zO0 hb zO0) (Pk.perm zB0) rfl rfl (fun v G3 outs hle3 hh => ?_); obtain ⟨p3, hp31, hp32, rfl, t3, cells3, rfl, hr3, hs3⟩ := hh; obtain ⟨q3, c3, es3, rfl, _⟩ := hr3.open)
       refine B5 ?_
       refine E2 (t3, q3, c3, p3, G3) (D6 zA0 zQ) ?_
       (dsimp only; exact ⟨hlef3.trans hle3, hr3, by omega, by omega, by omega⟩)
      ·refine tK ?_
       refine E2 (C5, none, 0, p1, G1) (D6 zA0 zQ) ?_
       (dsimp only; exact ⟨C3.refl _, A1n _, by decide, by omega, by omega⟩)
      ·(rintro ⟨(t' : Ty), q', c', p2, G2⟩ ⟨hleB, hrB, hsB, hpC, hpD⟩; simp only [] at hleB hrB hsB hpC hpD ⊢; replace hb := hb.mono hleB; have hop := A1G k; have hK := A5O k)
       refine A7 ?_
       refine C2 ?_
       (refine V1 28 9 ?_; refine K2 (fun (x : Nat × Option Addr × Nat × List Tm × List (List Value) × Nat × IM) => ⟨[(9, .int .i64 x.1), (7, .int .i64 k), (8, .pointer (some ⟨b69, 0, none⟩)), (6, .pointer (some ⟨b3, 0, none⟩)), (0, .pointer (some ⟨br, 0, none⟩)), (1, .string s'), (2, .int .i64 ((d1 + 1 + 1 : Nat) : Int))], [.blk b69 [.int .i64 k, .string nm, .int .i64 0, .int .i64 t'.k, .slice q' t'.ks.length c', .int .i64 0, .slice none 0 0, .int .i64 0, .slice x.2.1 x.1 x.2.2.1], .slc x.2.1 x.2.2.1 28 9 x.1 x.2.2.2.2.1.flatten, rd br pb nb cb x.2.2.2.2.2.1, .blk b3 zq9], x.2.2.2.2.2.2⟩) (fun x => ((x.1 : Int) ≤ E4 k ∨ x.1 = 0) ∧ C3 G2 x.2.2.2.2.2.2 ∧ x.2.2.2.1.length = x.1 ∧ H4 x.2.2.2.2.2.2 x.2.2.2.1 x.2.2.2.2.1 ∧ Z8 x.2.2.2.1 ≤ ((x.1 * tB d1 : Nat) : Int) ∧ p2 ≤ x.2.2.2.2.2.1 ∧ x.2.2.2.2.2.1 ≤ p2 + x.1 * tB d1) (fun x => (E4 k).toNat - x.1) (0, none, 0, [], [], p2, G2) ?_ ?_ ?_)
       ·(simp only [J5]; exact E3)
       ·(exact ⟨.inr rfl, C3.refl _, rfl, by simp [H4], by simp [Z8], by dsimp only; omega, by dsimp only; omega⟩)
       ·(rintro ⟨i, pn, cn, ts, es', p', Gi⟩ ⟨hi, hle, hlt, hst, hsum, hq1, hq2⟩; simp only [] at hi hle hlt hst hsum hq1 hq2 ⊢; have hid : i * tB d1 ≤ 3 * tB d1 := Nat.mul_le_mul_right _ zO0)
        refine B1 ?_
        refine F0 rfl ((hK _)) rfl rfl ?_
        refine zf8 (fun h261 => ?_) (fun h261 => ?_)
        ·refine A7 ?_
         refine C2 ?_
         (have hih := ih d1 zO0 p' Gi s' zO0 zO0 (hb.mono hle) (by have := Nat.mul_le_mul_right (tB d1) (show i + 1 ≤ 3 by omega); rw [Nat.succ_mul] at this; omega); refine zdd D9 rfl ?_)
         refine xx5 0 1 2 3 4 ?_
         refine aP 5 rfl (A5E rfl rfl zO0) rfl ?_
         refine A2 6 ?_
         (refine Z9 (l' := [tt,tt,tt,tt,tt,tt,tt,ff,ff,ff,ff]) rfl rfl hih (Pk.perm zB0) rfl rfl rfl zK (fun v G3 outs hle3 hh => ?_); obtain ⟨p3, hp31, hp32, rfl, t3, cells3, rfl, hr3, hs3⟩ := hh; obtain ⟨qt, dt, et, qf, df, ef, q3, d3, es3, rfl, _⟩ := hr3.open)
         refine A2 7 ?_
         refine zf3 (fun b279 => ?_)
         refine A2 8 ?_
         refine R4 rfl rfl rfl rfl rfl rfl (fun _ _ => by repeat (first | exact Sw.here | apply Sw.there)) (O4 zG0) rfl zI0 zJ0 zO0 rfl rfl zK (fun pn' cn' => ?_)
         refine xx1 9 ?_
         refine A2 10 ?_
         refine R8 rfl rfl rfl rfl rfl rfl rfl rfl zM0 zC0 (by rfl) ?_
         refine B1 ?_
         refine zf4 ?_
         refine A5 ?_
         refine J7 (i + 1, pn', cn', ts ++ [t3], es' ++ [[.int .i64 t3.k, .string t3.nm, .int .i64 t3.num, .int .i64 t3.ty.k, .slice qt t3.ty.ks.length dt, .int .i64 t3.fr.k, .slice qf t3.fr.ks.length df, .int .i64 t3.lb, .slice q3 t3.ks.length d3]], p3, G3) ?_ ?_ ?_
         ·(simp only [J5]; exact E3)
         ·(dsimp only; have e1 : (i + 1) * tB d1 = i * tB d1 + tB d1 := Nat.succ_mul _ _; have e2 := A7D ts t3; exact ⟨.inl zO0, hle.trans hle3, by simp [hlt], H4.snoc (hst.mono hle3) hr3, by omega, by omega, by omega⟩)
         ·(show (E4 k).toNat - (i + 1) < (E4 k).toNat - i; omega)
        ·refine K5 ?_
         (refine H1 zB0 (fun G5 hle5 hsl5 hno5 => ?_))
         refine tT ?_
         refine I6 (outs := [rd br pb nb cb p']) (rC rfl (A4 rfl rfl)) zN ?_
         (refine ⟨p', by omega, by omega, rfl, .mk k nm 0 t' C5 0 ts, _, rfl, (hst.mono hle5).tm hlt hsl5 ⟨by omega, by omega⟩ ⟨by omega, by omega⟩ (hrB.mono (hle.trans hle5)), ?_⟩; rw [A0I, A7C]; omega)
variable {cs : List Value}
theorem Sl.pre {m : Nat} (h : Sl G p n c 1 cs) (hm : m ≤ n) : Sl G p m c 1 (cs.take m) := by
 obtain ⟨h1, h2, h3, h4⟩ := h
 refine ⟨by rw [List.length_take]; omega, by omega, h3, ?_⟩
 rcases h4 with h4 | ⟨b, o, full, e1, e2, e3⟩
 ·exact .inl zO0
 ·refine .inr ⟨b, o, full, e1, e2, fun j v hj => e3 j v ?_⟩
  rw [List.getElem?_take] at hj
  split at hj
  ·exact hj
  ·cases hj
theorem B6f (bs : List UInt8) (m : Nat) : O7 (bs.take m) = (O7 bs).take m := by unfold O7; rw [List.map_take]
theorem B6g (h : d ≤ 4) : tB d ≤ 1043 := by
 have : d = 0 ∨ d = 1 ∨ d = 2 ∨ d = 3 ∨ d = 4 := by omega
 rcases this with rfl | rfl | rfl | rfl | rfl <;> decide
def A4N (G : IM) : IM → Value → List A9 → Prop := fun G' v outs => G' = G ∧ ∃ br pb nb cb bs, v = .pointer (some ⟨br, 0, none⟩) ∧ outs = [rd br pb nb cb 0] ∧ nb ≤ 2000 ∧ Sl G pb nb cb 1 (O7 bs)
variable {b : Nat}
theorem A4N.mk {pb : Option Addr} {nb cb : Nat} {bs : List UInt8} (h : nb ≤ 2000) (hb : Sl G pb nb cb 1 (O7 bs)) : A4N G G (.pointer (some ⟨b, 0, none⟩)) [.blk b [.slice pb nb cb, .int .i64 0]] := ⟨rfl, _, _, _, _, bs, rfl, rfl, h, hb⟩
theorem B6h (G : IM) (q : Option Addr) (n c : Nat) (bs : List UInt8) (hb : Sl G q n c 1 (O7 bs)) :
  Fn prog 21 [.slice q n c] [] G (A4N G) := by
 have hn := hb.le
 have hnc := hb.2.1
 have hpre := fun h : 2000 ≤ n => hb.pre h
 refine C4 func21 rfl ntmps21 results21 rfl ?_
 intro w0
 refine I9 ?_
 refine zf17 (fun h11 => ?_) (fun h11 => ?_)
 refine B1 ?_
 refine sP (A7k (l := 2000) rfl rfl rfl zO0) rfl rfl ?_
 refine B8 ?_
 refine zf2 (fun b25 => ?_)
 refine B6 ?_
 refine I6 (rT rfl) A1.refl ?_
 exact A4N.mk (Nat.le_refl _) (by rw [B6f]; exact hpre zO0)
 refine E1 ?_
 refine zf2 (fun b41 => ?_)
 refine B6 ?_
 refine I6 (rT rfl) A1.refl ?_
 exact A4N.mk zO0 hb
theorem B6i (br : Nat) (pb : Option Addr) (nb cb : Nat) (bs : List UInt8) (hnb : nb ≤ 2000) (p : Nat) (G : IM) (hb : Sl G pb nb cb 1 (O7 bs)) (hp : p + 1100 < 1099511627776) :
  Fn prog 145 [.pointer (some ⟨br, 0, none⟩)] [rd br pb nb cb p] G
   (A0J br pb nb cb p 1100 (fun G' v => ∃ t cells, v = .agg ⟨cells⟩ ∧ B7 G' t cells ∧ A0I t ≤ 1043)) := by
 refine C4 func145 rfl ntmps145 results145 rfl ?_
 intro w0
 refine A5 ?_
 refine zf1 (fun b3 => ?_)
 refine A7 ?_
 refine zf7 (fun b10 => ?_)
 (refine V7 zB0 (fun Gf hlef hslf _ => ?_); refine K4 rfl (A0F Gf br pb nb cb p bs _ _ _ _ (hb.mono hlef) hnb zO0 hslf zN0) (Pk.perm zB0) rfl rfl (fun v Gn outs hlen hh => ?_); obtain ⟨rfl, rfl, hv⟩ := hh; replace hb := hb.mono hlef; obtain ⟨dd, rfl, hdd⟩ : ∃ d : Nat, v = .int .i64 ((d + 1 : Nat) : Int) ∧ d ≤ 4 := (by simp only [List.mem_cons, List.not_mem_nil, or_false] at hv; rcases hv with rfl | rfl | rfl | rfl | rfl <;> first | exact ⟨3, rfl, by decide⟩ | exact ⟨2, rfl, by decide⟩ | exact ⟨4, rfl, by decide⟩ | exact ⟨1, rfl, by decide⟩); have htB := B6g hdd)
 (refine K4 rfl (B6e br pb nb cb bs hnb dd (p + 1) Gn ⟨⟨[]⟩⟩ zO0 (by have hz : (⟨⟨[]⟩⟩ : ByteArray).size ≤ 2 := zN0; omega) hb zO0) (Pk.perm zB0) rfl rfl (fun v G3 outs hle3 hh => ?_); obtain ⟨p3, hp31, hp32, rfl, t3, cells3, rfl, hr3, hs3⟩ := hh; have hl3 := hr3.len; have ho3 := hr3.one; have hc3 := A7r t3; have hv3 := A5U t3 G3 cells3 zO0 hr3)
 refine zf1 (fun b13 => ?_)
 refine sS rfl rfl rfl hl3 ho3 rfl ?_ (hu := by exact E0 hl3.symm)
 refine B1 ?_
 refine sL (A3 rfl rfl (B9 zG0) hl3) rfl rfl ?_
 refine L4 rfl (hv3) rfl rfl (fun h21 => ?_) (fun h21 => ?_)
 refine B1 ?_
 refine sL (A3 rfl rfl (B9 zG0) hl3) rfl rfl ?_
 refine sS rfl rfl rfl hl3 ho3 rfl ?_ (hu := by exact E0 hl3.symm)
 refine B6 ?_
 refine I6 (outs := [rd br pb nb cb p3]) (rC rfl (A3 rfl rfl (B9 zG0) hl3)) zN ?_
 (exact ⟨p3, by omega, by omega, rfl, t3, cells3, rfl, hr3, by omega⟩)
 refine B8 ?_
 refine F0 rfl ((A3g _ _)) rfl rfl ?_
 refine B6 ?_
 refine I6 (outs := [rd br pb nb cb p3]) (rC rfl (A4 rfl rfl)) zN ?_
 (exact ⟨p3, by omega, by omega, rfl, _, _, rfl, A2o ⟨by omega, by omega⟩ ⟨by omega, by omega⟩, by rw [A2T]; decide⟩)
theorem A0X (G : IM) : Fn prog 172 [] [] G (I1 (.agg ⟨[.int .i64 2, .slice none 0 0]⟩) G) := by
 refine C4 func172 rfl ntmps172 results172 rfl ?_
 intro w0
 exact y17
theorem A3W (G : IM) : Fn prog 173 [] [] G (I1 (.agg ⟨[.int .i64 3, .slice none 0 0]⟩) G) := by
 refine C4 func173 rfl ntmps173 results173 rfl ?_
 intro w0
 exact y17
theorem A3h (G : IM) (k : Int) (p : Option Addr) (n c : Nat) : Fn prog 182 [.int .i64 k, .slice p n c] [] G (I1 (.agg ⟨[.int .i64 k, .string ⟨⟨[]⟩⟩, .int .i64 0, .int .i64 0, .slice none 0 0, .int .i64 0, .slice none 0 0, .int .i64 0, .slice p n c]⟩) G) := by
 refine C4 func182 rfl ntmps182 results182 rfl ?_
 intro w0
 refine A5 ?_
 refine zf1 (fun b3 => ?_)
 refine J3 ?_
 refine zf9 ?_
 exact ⟨rfl, rfl, rfl⟩
theorem N2 (G : IM) {k : Int} (hk : F8 k) : C6 G (.mk k []) [.int .i64 k, .slice none 0 0] := by
 simp only [C6]
 exact ⟨none, 0, [], rfl, hk, D7.of (Sl.nil _ _) rfl zP0 zP0, by simp [E7]⟩
theorem B0E (k : Int) : L3 (.mk k []) = 0 := rfl
def TyB (B : Int) (G : IM) : IM → Value → List A9 → Prop := M3 fun G' v => ∃ t cells b, v = .tuple ⟨[.agg ⟨cells⟩, .bool b]⟩ ∧ C6 G' t cells ∧ H8 t ∧ L3 t ≤ B
theorem A5X {k : Int} {a b : Ty} (hk : k = 4 ∨ k = 5) (ha : H8 a) (hb : H8 b) : H8 (.mk k [a, b]) := by
 rw [H8]
 exact ⟨fun _ => rfl, fun h4 h5 => by omega, by simp [A0m, ha, hb]⟩
theorem S8 {k : Int} (h4 : k ≠ 4) (h5 : k ≠ 5) : H8 (.mk k []) := (A3T 0 h4 h5).ar
theorem H8.kid {k : Int} {ks : List Ty} (h : H8 (.mk k ks)) : ∀ t ∈ ks, H8 t := by
 rw [H8] at h; exact A4G.1 h.2.2
theorem H8.two {k : Int} {ks : List Ty} (h : H8 (.mk k ks)) : ks.length ≤ 2 := by
 rw [H8] at h
 have h1 := h.1
 have h2 := h.2.1
 omega
theorem B0F : ∀ {ks : List Ty} {t : Ty}, t ∈ ks → L3 t ≤ P8 ks
 | [], t, h => by simp at h
 | t' :: ts, t, h => by
  rw [P8]
  have := A1C t'
  have := A2M ts
  rcases List.mem_cons.1 h with rfl | h
  ·omega
  ·have := B0F h; omega
theorem B6j {k : Int} {ks : List Ty} {t : Ty} (h : t ∈ ks) : L3 t ≤ L3 (.mk k ks) := by
 have := B0F h
 rw [L3]; omega
def C0A (B : Int) (G : IM) : IM → Value → List A9 → Prop := M3 fun G' v => ∃ a ca b cb x, v = .tuple ⟨[.agg ⟨ca⟩, .agg ⟨cb⟩, .bool x]⟩ ∧ C6 G' a ca ∧ H8 a ∧ L3 a ≤ B ∧ C6 G' b cb ∧ H8 b ∧ L3 b ≤ B
def TyP (B : Int) (Q : Ty → Prop) (G : IM) : IM → Value → List A9 → Prop := M3 fun G' v => ∃ t cells, v = .agg ⟨cells⟩ ∧ C6 G' t cells ∧ H8 t ∧ L3 t ≤ B ∧ Q t
theorem B0G {k : Int} {ks us : List Ty} (h : H8 (.mk k ks)) (hl : us.length = ks.length) (hu : ∀ u ∈ us, H8 u) : H8 (.mk k us) := by
 rw [H8] at h ⊢
 exact ⟨fun hk => by rw [hl]; exact h.1 hk, fun a b => by rw [hl]; exact h.2.1 a b, A4G.2 hu⟩
theorem A3X {P : Ty → Prop} {us : List Ty} {u : Ty} (h : ∀ x ∈ us, P x) (hu : P u) : ∀ x ∈ us ++ [u], P x := by
 simp only [List.forall_mem_append, List.forall_mem_singleton]; exact ⟨h, hu⟩
theorem A2p : ∀ (t t' : Ty) (G : IM) (cells cells' : List Value), H8 t → H8 t' → C6 G t cells → C6 G t' cells' →
  Fn prog 101 [.agg ⟨cells⟩, .agg ⟨cells'⟩] [] G (I1 (.bool (K8 t t')) G) := by
 refine Ty.ind fun k ks ih t' G cells cells' ha ha' hr hr' => ?_
 obtain ⟨k', ks'⟩ := t'
 obtain ⟨p, c, es, rfl, hk, hsl, hkl⟩ := hr.open
 obtain ⟨p', c', es', rfl, hk', hsl', hkl'⟩ := hr'.open
 simp only [Ty.k, Ty.ks] at hk hsl hkl hk' hsl' hkl' ⊢
 have hn := hsl.le
 have hn' := hsl'.le
 have hv2 := ha.kid
 have hv2' := ha'.kid
 rw [H8] at ha ha'
 have hle : k = k' → ks.length = ks'.length := by
  rintro rfl
  have h1 := ha.1
  have h2 := ha.2.1
  have h3 := ha'.1
  have h4 := ha'.2.1
  omega
 refine C4 func101 rfl ntmps101 results101 rfl ?_
 intro w0
 refine A5 ?_
 refine zf2 (fun b3 => ?_)
 refine zf2 (fun b4 => ?_)
 refine D4 ?_
 refine zf0 (fun h13 => ?_) (fun h13 => ?_)
 refine L9 ?_
 (rw [A5Q zO0]; exact ⟨rfl, rfl, rfl⟩)
 refine B5 ?_
 refine zf0 (fun h34 => ?_) (fun h34 => ?_)
 refine P3 ?_
 (rw [A5Q zO0]; exact ⟨rfl, rfl, rfl⟩)
 refine K7 ?_
 refine zf16 (fun h61 => ?_) (fun h61 => ?_)
 refine J3 ?_
 (rw [B0h zO0 zO0 zO0]; exact ⟨rfl, rfl, rfl⟩)
 refine J3 ?_
 refine C2 ?_
 (have hll : ks.length = ks'.length := hle zO0; refine K2 (fun (i : Nat) => ⟨[(5, .int .i64 i), (3, .pointer (some ⟨b4, 0, none⟩)), (2, .pointer (some ⟨b3, 0, none⟩))], [.blk b3 [.int .i64 k, .slice p ks.length c], .blk b4 [.int .i64 k', .slice p' ks'.length c']], G⟩) (fun i => i ≤ ks.length ∧ ∀ j (h : j < ks.length) (h' : j < ks'.length), j < i → K8 ks[j] ks'[j] = true) (fun i => ks.length - i) 0 ?_ ?_ ?_)
 exact E3
 exact ⟨by omega, by omega⟩
 (rintro i ⟨hi, hf⟩)
 refine B8 ?_
 refine zf8 (fun h97 => ?_) (fun h97 => ?_)
 refine A7 ?_
 refine C2 ?_
 refine tS ?_
 (obtain ⟨b, o, p2, c2, rfl, hat, hre, hgb⟩ := hsl.kidTy hkl (i := i) zO0 zO0; obtain ⟨b', o', p2', c2', rfl, hat', hre', hgb'⟩ := hsl'.kidTy hkl' (i := i) zO0 zO0; refine zdd D9 rfl ?_)
 refine xx3 0 1 2 ?_
 refine aP 3 rfl (B2 rfl rfl rfl zO0) rfl ?_
 refine aL 4 rfl (A3 rfl rfl (hat _) rfl) rfl ?_
 refine xx3 5 6 7 ?_
 refine aP 8 rfl (B2 rfl rfl rfl zO0) rfl ?_
 refine aL 9 rfl (A3 rfl rfl (hat' _) rfl) rfl ?_
 refine A2 10 ?_
 refine V2 rfl rfl (ih ks[i] (List.getElem_mem zO0) ks'[i] G _ _ (hv2 _ (List.getElem_mem zO0)) (hv2' _ (List.getElem_mem zO0)) hre hre') rfl rfl rfl (fun h118 => ?_) (fun h118 => ?_)
 refine xx1 11 ?_
 refine D4 ?_
 refine zf4 ?_
 refine A5 ?_
 refine J7 (i + 1) ?_ ?_ ?_
 exact E3
 exact ⟨by omega, fun j hj hj' hji => by (by_cases he : j = i; (subst he; assumption); exact hf j hj hj' zO0)⟩
 omega
 refine xx1 11 ?_
 refine K1 ?_
 (rw [A5R zO0 zO0 zO0, B0i (i := i) zO0 zO0 zL0]; exact ⟨rfl, rfl, rfl⟩)
 refine K1 ?_
 (rw [A5R zO0 zO0 zO0, (A2K ks _).2 ⟨hll, fun j hj hj' => hf j hj hj' zO0⟩]; exact ⟨rfl, rfl, rfl⟩)
theorem A5Y (br : Nat) (pb : Option Addr) (nb cb : Nat) (bs : List UInt8) (hnb : nb ≤ 2000) : ∀ (t : Ty) (p : Nat) (G : IM) (cells : List Value), H8 t → C6 G t cells → Sl G pb nb cb 1 (O7 bs) → p + (L3 t).toNat + 1 < 1099511627776 →
  Fn prog 99 [.pointer (some ⟨br, 0, none⟩), .agg ⟨cells⟩] [rd br pb nb cb p] G
   (A0J br pb nb cb p ((L3 t).toNat + 1) (fun G' v => ∃ u cells, v = .agg ⟨cells⟩ ∧ C6 G' u cells ∧ H8 u ∧ L3 u ≤ L3 t ∧ ∀ n, R6 n t → R6 n u)) := by
 refine Ty.ind fun k ks ih p G cells ha hr hb hp => ?_
 have hkid := ha.kid
 have hnn := A2M ks
 have hz : L3 (.mk k ks) = ks.length + P8 ks := by rw [L3]
 rw [hz] at hp ⊢
 obtain ⟨q, c, es, rfl, hk, hsl, hkl⟩ := hr.open
 simp only [Ty.k, Ty.ks] at hk hsl hkl ⊢
 have hn := hsl.le
 have hl2 := ha.two
 refine C4 func99 rfl ntmps99 results99 rfl ?_
 intro w0
 refine A5 ?_
 refine zf2 (fun b3 => ?_)
 refine zf1 (fun b4 => ?_)
 refine A7 ?_
 (refine K4 rfl (A0i _ br pb nb cb p bs _ hb hnb zO0) (Pk.perm zB0) rfl rfl (fun v11 G11 outs11 hle11 hh => ?_); obtain ⟨rfl, rfl, j11, rfl, hj11, hk11⟩ := hh; have hm := hle11)
 replace hb := hb.mono hle11
 replace hr := hr.mono hle11
 replace hsl := hsl.mono hle11
 replace hkl := hkl.mono hle11
 refine zf0 (fun h12 => ?_) (fun h12 => ?_)
 refine B1 ?_
 refine F0 rfl ((A2n _)) rfl rfl ?_
 refine B1 ?_
 refine I6 (outs := [rd br pb nb cb (p + 1)]) (rC rfl (A4 rfl rfl)) zN ?_
 (exact ⟨p + 1, by omega, by omega, rfl, R1, _, rfl, A06 _, A4H, by rw [A7z]; omega, fun n _ => B0e n⟩)
 refine I9 ?_
 refine zf1 (fun b36 => ?_)
 refine E1 ?_
 refine C2 ?_
 (refine V1 25 2 ?_; refine K2 (fun (x : Nat × Option Addr × Nat × List Ty × List (List Value) × Nat × IM) => ⟨[(6, .int .i64 x.1), (5, .pointer (some ⟨b36, 0, none⟩)), (4, .pointer (some ⟨b4, 0, none⟩)), (0, .pointer (some ⟨br, 0, none⟩)), (3, .pointer (some ⟨b3, 0, none⟩))], [.blk b36 [.int .i64 k, .slice x.2.1 x.1 x.2.2.1], .slc x.2.1 x.2.2.1 25 2 x.1 x.2.2.2.2.1.flatten, rd br pb nb cb x.2.2.2.2.2.1, .blk b4 [.int .i64 0, .slice none 0 0], .blk b3 [.int .i64 k, .slice q ks.length c]], x.2.2.2.2.2.2⟩) (fun x => x.1 ≤ ks.length ∧ C3 G11 x.2.2.2.2.2.2 ∧ x.2.2.2.1.length = x.1 ∧ E7 x.2.2.2.2.2.2 x.2.2.2.1 x.2.2.2.2.1 ∧ (∀ u ∈ x.2.2.2.1, H8 u) ∧ (∀ n, R6 n (.mk k ks) → ∀ u ∈ x.2.2.2.1, R6 (n - 1) u) ∧ P8 x.2.2.2.1 ≤ P8 (ks.take x.1) ∧ p + 1 ≤ x.2.2.2.2.2.1 ∧ (x.2.2.2.2.2.1 : Int) ≤ p + 1 + x.1 + P8 (ks.take x.1)) (fun x => ks.length - x.1) (0, none, 0, [], [], p + 1, G11) ?_ ?_ ?_)
 (simp only [J5]; exact E3)
 (exact ⟨by simp, C3.refl _, rfl, by simp [E7], by simp, by simp, by simp [P8], by dsimp only; omega, by simp [P8]⟩)
 (rintro ⟨i, pn, cn, us, es', p', Gi⟩ ⟨hi, hle, hlu, hst, hau, hhu, hsu, hp1, hp2⟩; simp only [] at hi hle hlu hst hau hhu hsu hp1 hp2 ⊢; replace hsl := hsl.mono hle; replace hkl := hkl.mono hle; have htk := A9C ks i)
 refine B8 ?_
 refine zf8 (fun h58 => ?_) (fun h58 => ?_)
 refine A7 ?_
 refine C2 ?_
 (obtain ⟨b, o, q0, d0, hp0, hat0, hre0, hg0⟩ := hsl.kidTy hkl (i := i) zO0 zO0; subst hp0; have e1 := B43 (ks := ks) (i := i) zO0; have e2 := A9C ks (i + 1); have e3 := A1C ks[i]; have hih := ih ks[i] (List.getElem_mem zO0) p' Gi _ (hkid _ (List.getElem_mem zO0)) hre0 (hb.mono hle) zO0; refine zdd D9 rfl ?_)
 refine xx6 0 1 2 3 4 5 ?_
 refine aP 6 rfl (B2 rfl rfl rfl zO0) rfl ?_
 refine xx1 7 ?_
 refine A2 8 ?_
 (refine Z9 (l' := [tt,tt,tt,tt,tt,tt,tt,tt,tt,ff,ff,ff,ff]) rfl rfl hih (Pk.perm zB0) rfl rfl rfl (by repeat (first | exact B3.nil | apply B3.dep zK0 | apply B3.blk zK0 zB0 zG0 | apply B3.im zK0 hg0 zG0)) (fun v G3 outs hle3 hh => ?_); obtain ⟨p3, hp31, hp32, rfl, u, cells3, rfl, hru, hua, hus, huh⟩ := hh; obtain ⟨q3, c3, es3, rfl, _⟩ := hru.open)
 refine A2 9 ?_
 refine zf3 (fun b78 => ?_)
 refine A2 10 ?_
 refine R4 rfl rfl rfl rfl rfl rfl (fun _ _ => by repeat (first | exact Sw.here | apply Sw.there)) (O4 zG0) rfl zI0 zJ0 zO0 rfl rfl zK (fun pn' cn' => ?_)
 refine xx1 11 ?_
 refine A2 12 ?_
 refine R8 rfl rfl rfl rfl rfl rfl rfl rfl zM0 zC0 (by rfl) ?_
 refine B1 ?_
 refine zf4 ?_
 refine A5 ?_
 refine J7 (i + 1, pn', cn', us ++ [u], es' ++ [[.int .i64 u.k, .slice q3 u.ks.length c3]], p3, G3) ?_ ?_ ?_
 (simp only [J5]; exact E3)
 (dsimp only; exact ⟨by omega, hle.trans hle3, by simp [hlu], E7.snoc (hst.mono hle3) hru, A3X hau hua, fun n hn => A3X (hhu n hn) (huh _ (A7s hn (List.getElem_mem _))), by rw [A5V]; omega, by omega, by omega⟩)
 (show ks.length - (i + 1) < ks.length - i; omega)
 refine K5 ?_
 (refine H1 zB0 (fun G5 hle5 hsl5 hno5 => ?_); obtain rfl : i = ks.length := zO0)
 refine tT ?_
 refine I6 (outs := [rd br pb nb cb p']) (rC rfl (A4 rfl rfl)) zN ?_
 (rw [List.take_length] at hsu hp2; refine ⟨p', by omega, by omega, rfl, .mk k us, _, rfl, (hst.mono hle5).ty hlu hsl5 hk, B0G ha hlu hau, by rw [L3]; omega, fun n hn => B5P hn hlu (hhu n hn)⟩)
variable {vs : List Value} {j : Nat}
theorem At.sub {o : Nat} {v : Value} (h : At hp G b o vs) (hj : vs[j]? = some v) : At hp G b (o + j) [v] := by
 have key : ∀ {cs : List Value}, (∀ i u, vs[i]? = some u → cs[o + i]? = some u) → ∀ i u, [v][i]? = some u → cs[o + j + i]? = some u := by
  intro cs hc i u hu
  cases i with
  | zero => simp at hu; subst hu; simpa using hc j v hj
  | succ i => simp at hu
 rcases h with ⟨cs, hm, hv⟩ | ⟨n, c, el, sz, cs, hm, hv⟩ | ⟨full, hg, hv⟩
 ·exact .inl ⟨cs, hm, key hv⟩
 ·exact .inr (.inl ⟨n, c, el, sz, cs, hm, key hv⟩)
 ·exact .inr (.inr ⟨full, hg, key hv⟩)
theorem At.sub2 {o j' : Nat} {v : Value} (h : At hp G b o vs) (hj : vs[j + j']? = some v) : At hp G b (o + j + j') [v] := by
 rw [Nat.add_assoc]; exact h.sub hj
def HTm (G : IM) (t : Tm) (k : Int) (cells : List Value) : Prop := ∃ pt ct et pf cf ef p c es,
 cells = [.int .i64 t.k, .string t.nm, .int .i64 t.num, .int .i64 t.ty.k, .slice pt t.ty.ks.length ct, .int .i64 t.fr.k, .slice pf t.fr.ks.length cf, .int .i64 t.lb, .slice p t.ks.length c] ∧
 D7 G pt t.ty.ks.length ct 2 et ∧ E7 G (A2L t.ty.ks k) et ∧ D7 G pf t.fr.ks.length cf 2 ef ∧ E7 G (A2L t.fr.ks (k + A0D t.ty.ks)) ef ∧ D7 G p t.ks.length c 9 es ∧ H4 G (A5C t.ks (k + A0D t.ty.ks + A0D t.fr.ks)) es
theorem B6k {nm : ByteArray} (h : Z0 nm = true) : nm.size = 1 := by
 unfold Z0 at h
 simp at h
 omega
theorem B0H {k : Int} {nm : ByteArray} {num : Int} {ty fr : Ty} {lb : Int} (h : X0 k nm num ty fr lb n = true) : nm.size ≤ 1 := by
 obtain ⟨_, h2, h3, _⟩ := W0.1 h
 by_cases hk : k = 1 ∨ k = 5
 ·rw [B6k (h2 hk)]; omega
 ·rw [h3 hk]; decide
def RBd (G : IM) (e : List Value) : Prop := ∃ nm t q d, e = [.string nm, .int .i64 t.k, .slice q t.ks.length d] ∧ C6 G t [.int .i64 t.k, .slice q t.ks.length d] ∧ H8 t ∧ L3 t ≤ 30 ∧ nm.size ≤ 1
def Z3 (G : IM) (p : Option Addr) (n c : Nat) : Prop := ∃ es, es.length = n ∧ D7 G p n c 3 es ∧ ∀ e ∈ es, RBd G e
theorem RBd.mono {G G' : IM} {e : List Value} (h : RBd G e) (hg : C3 G G') : RBd G' e := by
 obtain ⟨nm, t, q, d, h1, h2, h3, h4⟩ := h
 exact ⟨nm, t, q, d, h1, h2.mono hg, h3, h4⟩
theorem Z3.mono {G G' : IM} {p : Option Addr} {n c : Nat} (h : Z3 G p n c) (hg : C3 G G') : Z3 G' p n c := by
 obtain ⟨es, h1, h2, h3⟩ := h
 exact ⟨es, h1, h2.mono hg, fun e he => (h3 e he).mono hg⟩
theorem Z3.nil (G : IM) : Z3 G none 0 0 := ⟨[], rfl, D7.nil _ _, by simp⟩
theorem At.drop {hp : List A9} {G : IM} {b o : Nat} {v : Value} {vs : List Value} (h : At hp G b o (v :: vs)) : At hp G b (o + 1) vs := by
 have key : ∀ {cs : List Value}, (∀ i u, (v :: vs)[i]? = some u → cs[o + i]? = some u) → ∀ i u, vs[i]? = some u → cs[o + 1 + i]? = some u := by
  intro cs hc i u hu
  have := hc (i + 1) u (by simpa using hu)
  rwa [show o + 1 + i = o + (i + 1) by omega]
 rcases h with ⟨cs, hm, hv⟩ | ⟨n, c, el, sz, cs, hm, hv⟩ | ⟨full, hg, hv⟩
 ·exact .inl ⟨cs, hm, key hv⟩
 ·exact .inr (.inl ⟨n, c, el, sz, cs, hm, key hv⟩)
 ·exact .inr (.inr ⟨full, hg, key hv⟩)
theorem Z3.get {G : IM} {p : Option Addr} {n c : Nat} (h : Z3 G p n c) {i : Nat} (hi : i < n) :
  ∃ b o nm t q d, p = some ⟨b, o, none⟩ ∧ (∀ hp, At hp G b (o + i * 3) [.string nm, .int .i64 t.k, .slice q t.ks.length d]) ∧ C6 G t [.int .i64 t.k, .slice q t.ks.length d] ∧ H8 t ∧ L3 t ≤ 30 ∧ G b ≠ none ∧ nm.size ≤ 1 := by
 obtain ⟨es, h1, h2, h3⟩ := h
 obtain ⟨e, b, o, he, rfl, hl, _, hat, hgb⟩ := h2.get (i := i) zO0
 obtain ⟨nm, t, q, d, rfl, h5, h6, h7, h8⟩ := h3 e (List.mem_of_getElem? he)
 exact ⟨b, o, nm, t, q, d, rfl, hat, h5, h6, h7, hgb, h8⟩
theorem Z3.le {G : IM} {p : Option Addr} {n c : Nat} (h : Z3 G p n c) : n ≤ 9223372036854775807 := by
 obtain ⟨es, h1, h2, h3⟩ := h
 exact h2.le
theorem B6l (G : IM) (p : Option Addr) (n c : Nat) (nm : ByteArray) (hx : Z3 G p n c) :
  Fn prog 171 [.slice p n c, .string nm] [] G (TyB 30 G) := by
 have hn := hx.le
 refine C4 func171 rfl ntmps171 results171 rfl ?_
 intro w0
 refine A5 ?_
 refine zf1 (fun b3 => ?_)
 refine D4 ?_
 refine zf14 ?_
 refine B5 ?_
 refine C2 ?_
 (refine K2 (fun (i : Nat) => ⟨[(6, .int .i64 ((i : Int) - 1)), (0, .slice p n c), (1, .string nm), (4, .pointer (some ⟨b3, 0, none⟩))], [.blk b3 [.int .i64 0, .slice none 0 0]], G⟩) (fun i => i ≤ n) (fun i => i) n ?_ ?_ ?_)
 exact E3
 exact Nat.le_refl _
 (rintro i hi)
 refine B6 ?_
 refine sB (A1g rfl rfl) rfl rfl (fun h25 => ?_) (fun h25 => ?_)
 refine A7 ?_
 (show J9 _ _ (.block 1 _) _ _; obtain ⟨j, rfl⟩ : ∃ j, i = j + 1 := ⟨i - 1, by omega⟩; rw [show ((j + 1 : Nat) : Int) - 1 = (j : Int) from by omega]; obtain ⟨b, o, nm1, t1, q1, d1, rfl, hat, hr1, ha1, hs1, hgb, hns1⟩ := hx.get (i := j) zO0; refine C2 ?_)
 refine B6 ?_
 refine sP (B2 rfl rfl rfl zO0) rfl rfl ?_
 refine I0 ?_
 refine sL (A0t rfl rfl ((hat _).sub (j := 0) rfl)) rfl rfl ?_
 refine I0 ?_
 refine sB (A1h rfl rfl) rfl rfl (fun h41 => ?_) (fun h41 => ?_)
 refine B8 ?_
 refine sP (B2 rfl rfl rfl zO0) rfl rfl ?_
 refine I0 ?_
 refine sL (A3 rfl rfl (hat _).drop rfl) rfl rfl ?_
 (refine H6 rfl (W3 _ G _ ha1.small hr1) rfl rfl (fun v G1 hle1 hh => ?_); obtain ⟨cs1, F1, rfl, hs1', hn1⟩ := hh; obtain ⟨p1, c1, rfl, _⟩ := hs1'.open; have hrr := hs1'.R.mono (E8.le G1 G))
 refine I9 ?_
 refine zf5 ?_
 (exact ⟨rfl, _, _, _, rfl, hrr, ha1, hs1⟩)
 refine D4 ?_
 refine zf14 ?_
 refine A5 ?_
 refine J7 j ?_ ?_ ?_
 exact E3
 (show _ ≤ n; omega)
 exact Nat.le_refl _
 refine L9 ?_
 refine zf5 ?_
 (exact ⟨rfl, _, _, _, rfl, N2 _ ⟨by omega, by omega⟩, S8 zO0 zO0, by rw [B0E]; omega⟩)
theorem A7F {nm : ByteArray} {k : Int} {ks : List Ty} (hr : C6 G (.mk k ks) [.int .i64 k, .slice q ks.length d]) (ha : H8 (.mk k ks)) (hs : L3 (.mk k ks) ≤ 30) (hn : nm.size ≤ 1) : RBd G [.string nm, .int .i64 k, .slice q ks.length d] := ⟨nm, .mk k ks, q, d, rfl, hr, ha, hs, hn⟩
theorem Z3.snoc {G' : IM} {p' : Option Addr} {c' : Nat} {e : List Value} (h1 : es.length = n) (h2 : D7 G p n c 3 es) (h3 : ∀ e ∈ es, RBd G e) (hg : C3 G G') (he : RBd G' e) (hs : Sl G' p' (n + 1) c' 3 (es.flatten ++ e)) : Z3 G' p' (n + 1) c' := by
 refine ⟨es ++ [e], by simp [h1], D7.of (by simpa using hs) (by simp [h1]) ?_ ?_, ?_⟩
 ·intro x hx
  rcases List.mem_append.1 hx with hx | hx
  ·obtain ⟨_, _, _, _, rfl, _⟩ := h3 x hx; rfl
  ·obtain ⟨_, _, _, _, rfl, _⟩ := he
   simp only [List.mem_singleton] at hx; subst hx; rfl
 ·intro x hx
  rcases List.mem_append.1 hx with hx | hx
  ·obtain ⟨_, _, _, _, rfl, _⟩ := h3 x hx; simp [Value.oneCell']
  ·obtain ⟨_, _, _, _, rfl, _⟩ := he
   simp only [List.mem_singleton] at hx; subst hx; simp [Value.oneCell']
 ·intro x hx
  rcases List.mem_append.1 hx with hx | hx
  ·exact (h3 x hx).mono hg
  ·simp only [List.mem_singleton] at hx; subst hx; exact he
theorem B6m (G : IM) (p : Option Addr) (n c : Nat) (nm : ByteArray) (t : Ty) (cells : List Value) (hx : Z3 G p n c) (hn : n ≤ 1000) (hr : C6 G t cells) (ha : H8 t) (hs : L3 t ≤ 30) (hnm : nm.size ≤ 1) :
  Fn prog 132 [.slice p n c, .string nm, .agg ⟨cells⟩] [] G (M3 fun G' v => ∃ p' c', v = .slice p' (n + 1) c' ∧ Z3 G' p' (n + 1) c') := by
 obtain ⟨k, ks⟩ := t
 obtain ⟨q, d, es0, rfl, _⟩ := hr.open
 simp only [Ty.k, Ty.ks] at hr ⊢
 obtain ⟨es, h1, h2, h3⟩ := hx
 have hSl : Sl G p n c 3 es.flatten := h2.1
 have h1c : ∀ u ∈ es.flatten, u.oneCell' = true := by
  intro u hu
  obtain ⟨e, he, hue⟩ := List.mem_flatten.1 hu
  obtain ⟨_, _, _, _, rfl, _⟩ := h3 e he
  simp only [List.mem_cons, List.not_mem_nil, or_false] at hue
  rcases hue with rfl | rfl | rfl <;> rfl
 refine C4 func132 rfl ntmps132 results132 rfl ?_
 intro w0
 refine A5 ?_
 refine zf2 (fun b3 => ?_)
 refine B6 ?_
 refine zf6 ?_
 refine xx4 1 3 4 5 ?_
 refine N5 (j := 0) (j' := 6) zM0 ?_ ?_
 refine zf3 (fun b14 => ?_)
 refine N5 (j := 2) (j' := 6) zM0 ?_ ?_
 (refine A2m rfl rfl rfl rfl rfl rfl (fun _ _ => by repeat (first | exact Sw.here | apply Sw.there)) hSl h1c (Nat.zero_le _) zJ0 zO0 rfl rfl zK (fun p4 c4 => ?_); simp only [Nat.zero_add, List.nil_append])
 refine A2 6 ?_
 refine zf3 (fun b18 => ?_)
 exact y13
 refine zf3 (fun b28 => ?_)
 refine A2 2 ?_
 (refine A2m rfl rfl rfl rfl rfl rfl (fun _ _ => by repeat (first | exact Sw.here | apply Sw.there)) hSl h1c (Nat.zero_le _) zJ0 zO0 rfl rfl zK (fun p4 c4 => ?_); simp only [Nat.zero_add, List.nil_append])
 exact y13
 refine zf3 (fun b40 => ?_)
 refine A2 0 ?_
 refine zf3 (fun b42 => ?_)
 refine A2 2 ?_
 (refine A2m rfl rfl rfl rfl rfl rfl (fun _ _ => by repeat (first | exact Sw.here | apply Sw.there)) hSl h1c (Nat.zero_le _) zJ0 zO0 rfl rfl zK (fun p4 c4 => ?_); simp only [Nat.zero_add, List.nil_append])
 exact y13
theorem B6n (G : IM) : Fn prog 169 [.slice none 0 0] [] G (I1 (.bool true) G) := by
 refine C4 func169 rfl ntmps169 results169 rfl ?_
 intro w0
 refine J3 ?_
 refine C2 ?_
 (refine K2 (fun (_ : Nat) => ⟨[(3, .int .i64 0), (0, .slice none 0 0)], [], G⟩) (fun _ => True) (fun i => i) 0 ?_ ?_ ?_)
 ·exact E3
 ·trivial
 ·(rintro i _)
  refine A7 ?_
  refine sP (A3H rfl rfl zO0) rfl rfl ?_
  refine P3 ?_
  refine sP (B4t rfl rfl zO0) rfl rfl ?_
  refine B1 ?_
  trivial
theorem A3Y {k : Int} (h : E4 k = n) : (k = 6 ∨ k = 7 ∨ k = 8 ∨ k = 10 → n = 2) ∧ (k = 9 → n = 3) ∧ (k = 5 ∨ k = 11 ∨ k = 12 ∨ k = 13 → n = 1) := by
 refine ⟨?_, ?_, ?_⟩
 ·rintro (rfl | rfl | rfl | rfl)
  ·rw [show E4 6 = 2 from rfl] at h; omega
  ·rw [show E4 7 = 2 from rfl] at h; omega
  ·rw [show E4 8 = 2 from rfl] at h; omega
  ·rw [show E4 10 = 2 from rfl] at h; omega
 ·rintro rfl
  rw [show E4 9 = 3 from rfl] at h; omega
 ·rintro (rfl | rfl | rfl | rfl)
  ·rw [show E4 5 = 1 from rfl] at h; omega
  ·rw [show E4 11 = 1 from rfl] at h; omega
  ·rw [show E4 12 = 1 from rfl] at h; omega
  ·rw [show E4 13 = 1 from rfl] at h; omega
theorem B6o : ∀ (t : Ty) (d : Int), Q9 t d = true → H8 t := by
 refine Ty.ind fun k ks ih d h => ?_
 obtain ⟨h1, h2⟩ := A4I h
 rw [H8]
 refine ⟨fun hk => ?_, fun h4 h5 => ?_, A4G.2 fun t ht => ?_⟩
 ·have := (T5 k).2.1 hk
  omega
 ·have h5' := T5 k
  have h6 := h5'.1
  have h7 := h5'.2.2
  omega
 ·obtain ⟨i, hi, rfl⟩ := List.getElem_of_mem ht
  exact ih _ ht _ (h2 i hi)
theorem B6p : ∀ (n : Nat) (t : Ty) (d : Int), Q9 t d = true → 4 - d ≤ n → R6 n t := by
 intro n
 induction n with
 | zero =>
  rintro ⟨k, ks⟩ d h hd
  obtain ⟨h1, h2⟩ := A4I h
  have hks : ks.length = 0 := by
   rcases Nat.eq_zero_or_pos ks.length with h0 | h0
   ·exact h0
   ·have h3 := h2 0 h0
    obtain ⟨k', ks'⟩ : Ty := ks[0]
    have h4 : ∀ (u : Ty) (d : Int), Q9 u d = true → d ≤ 4 := by
     rintro ⟨a, b⟩ d hu
     rw [Q9] at hu
     simp only [Bool.and_eq_true, decide_eq_true_eq] at hu
     exact hu.1.1
    have := h4 _ _ h3
    omega
  have h5 := T5 k
  have h6 := h5.2.1
  exact ⟨List.length_eq_zero_iff.1 hks, by intro h; have := h6 (.inl h); omega, by intro h; have := h6 (.inr h); omega⟩
 | succ n ih =>
  rintro ⟨k, ks⟩ d h hd
  have ha := B6o _ _ h
  rw [H8] at ha
  obtain ⟨h1, h2⟩ := A4I h
  refine ⟨ha.1, ha.2.1, fun t ht => ?_⟩
  obtain ⟨i, hi, rfl⟩ := List.getElem_of_mem ht
  exact ih _ _ (h2 i hi) zO0
theorem A4O {t : Ty} (h : H7 t = true) : H8 t ∧ L3 t ≤ 30 := by
 have h1 := B6p 3 t 1 h zO0
 have h2 := A5P h1
 have h3 : ((2 ^ (3 + 1) - 2 : Nat) : Int) = 14 := rfl
 exact ⟨h1.ar, by omega⟩
theorem B6q {t : Ty} (h : Y4 t = true) : H8 t ∧ L3 t ≤ 30 := by
 rw [A2S h]
 exact ⟨S8 zN0 zN0, by rw [C5, B0E]; omega⟩
theorem A3Z {k : Int} {nm : ByteArray} {num : Int} {ty fr : Ty} {lb : Int} (h : X0 k nm num ty fr lb n = true) : H8 ty ∧ L3 ty ≤ 30 := by
 have hn := W0.1 h
 by_cases hk : k = 5 ∨ k = 13 ∨ k = 14
 ·exact A4O (hn.2.2.2.2.2.1 hk)
 ·exact B6q (hn.2.2.2.2.2.2.1 hk)
variable {c2 : Nat}
theorem B7.of9 {k : Int} {nm : ByteArray} {num tk fk : Int} {tks fks : List Ty} {lb : Int} {ks : List Tm} {q1 q2 q3 : Option Addr} {c1 c3 : Nat} (hk : F8 k) (hnum : F8 num) (hlb : F8 lb) (hty : C6 G (.mk tk tks) [.int .i64 tk, .slice q1 tks.length c1])
  (hfr : C6 G (.mk fk fks) [.int .i64 fk, .slice q2 fks.length c2]) (hsl : D7 G q3 ks.length c3 9 es) (hkl : H4 G ks es) :
  B7 G (.mk k nm num (.mk tk tks) (.mk fk fks) lb ks) [.int .i64 k, .string nm, .int .i64 num, .int .i64 tk, .slice q1 tks.length c1, .int .i64 fk, .slice q2 fks.length c2, .int .i64 lb, .slice q3 ks.length c3] := by
 simp only [B7]
 exact ⟨_, _, q3, c3, es, rfl, hk, hnum, hlb, hty, hfr, hsl, hkl⟩
theorem A3i {k k' : Int} {nm nm' : ByteArray} {num num' : Int} {ty fr ty' fr' : Ty} {lb lb' : Int} {ks : List Tm} (h : (Tm.mk k nm num ty fr lb ks).small) (h1 : nm'.size ≤ 4294967296) (h2 : ty'.small) (h3 : fr'.small) : (Tm.mk k' nm' num' ty' fr' lb' ks).small := by
 simp only [Tm.small] at h ⊢
 exact ⟨h1, h2, h3, h.2.2.2⟩
def Tm.fit (t : Tm) (N : Nat) : Prop := t.small ∧ H9 t ≤ N
theorem B6r (br : Nat) (pb : Option Addr) (nb cb : Nat) (bs : List UInt8) (hnb : nb ≤ 2000) (p : Nat) (G : IM) (hb : Sl G pb nb cb 1 (O7 bs)) (hp : p + 100 < 1099511627776) (t : Tm) (cells : List Value) (N : Nat) (hfit : t.fit N) (hr : B7 G t cells) :
  Fn prog 91 [.pointer (some ⟨br, 0, none⟩), .agg ⟨cells⟩] [rd br pb nb cb p] G
   (A0J br pb nb cb p 40 (fun G' v => ∃ t cells, v = .agg ⟨cells⟩ ∧ B7 G' t cells ∧ t.fit N)) := by
 have hl := hr.len
 have hone := hr.one
 obtain ⟨k, nm, num, ⟨tk, tks⟩, ⟨fk, fks⟩, lb, ks⟩ := t
 have hfit0 := hfit
 obtain ⟨hsm, hcn⟩ := hfit0
 replace hfit : (Tm.mk k nm num (.mk tk tks) (.mk fk fks) lb ks).small ∧ H9 (Tm.mk k nm num (.mk tk tks) (.mk fk fks) lb ks) ≤ N := hfit
 rw [show (Tm.mk k nm num (.mk tk tks) (.mk fk fks) lb ks).small = (nm.size ≤ 4294967296 ∧ (Ty.mk tk tks).small ∧ (Ty.mk fk fks).small ∧ ks.length ≤ 4294967296 ∧ Tm.smallL ks) from by rw [Tm.small]] at hfit
 refine C4 func91 rfl ntmps91 results91 rfl ?_
 intro w0
 refine A5 ?_
 refine zf2 (fun b3 => ?_)
 refine zf1 (fun b4 => ?_)
 refine B6 ?_
 refine sL (A3 rfl rfl (B9 zG0) zL0) rfl rfl ?_
 (refine H6 rfl (B0p _ G cells hsm hr) rfl rfl (fun v G1 hle1 hh => ?_); obtain ⟨cells1, F1, rfl, hs1, hn1⟩ := hh; have hr1 := hs1.R.mono (E8.le G1 G); obtain ⟨q1, c1, q2, c2, q3, c3, es, rfl, hk, hnum, hlb, hty, hfr, hsl, hkl⟩ := hr1.open9)
 refine zf1 (fun b11 => ?_)
 refine B8 ?_
 (refine K4 rfl (A0i _ br pb nb cb p bs 50 (hb.mono hle1) hnb zO0) (Pk.perm zB0) rfl rfl (fun v G2 outs hle2 hh => ?_); obtain ⟨rfl, rfl, j, rfl, hj0, hj1⟩ := hh; replace hb := hb.mono hle1)
 refine A5 ?_
 (show J9 _ _ (.block 0 _) _ _; refine P4 (fun (x : List Value × Nat × IM) => ⟨[(5, .pointer (some ⟨b11, 0, none⟩)), (4, .pointer (some ⟨b4, 0, none⟩))], [.blk b11 x.1, .blk b4 zq9, rd br pb nb cb x.2.1], x.2.2⟩) (fun x => C3 G2 x.2.2 ∧ p ≤ x.2.1 ∧ x.2.1 ≤ p + 40 ∧ ∃ t, B7 x.2.2 t x.1 ∧ t.small ∧ H9 t = H9 (.mk k nm num (.mk tk tks) (.mk fk fks) lb ks)) ?_ ?_)
 refine C2 (tS (tR (sB (qE rfl rfl) rfl rfl (fun h26 => ?_) (fun h26 => ?_))))
 refine A7 ?_
 refine zf7 (fun b33 => ?_)
 (refine V7 zB0 (fun G4 hle4 hsl4 _ => ?_); refine K4 rfl (A0F G4 br pb nb cb (p + 1) bs _ _ _ _ (hb.mono hle4) hnb zO0 hsl4 zN0) (Pk.perm zB0) rfl rfl (fun v G5 outs hle5 hh => ?_); obtain ⟨rfl, rfl, hv⟩ := hh; obtain ⟨k', rfl, hk'⟩ : ∃ k', v = .int .i64 k' ∧ F8 k' := zP)
 refine B6 ?_
 refine E2 ([.int .i64 k', .string nm, .int .i64 num, .int .i64 tk, .slice q1 tks.length c1, .int .i64 fk, .slice q2 fks.length c2, .int .i64 lb, .slice q3 ks.length c3], p + 1 + 1, G5) (D6 zA0 zQ) ?_
 (dsimp only; exact ⟨hle4, by omega, by omega, _, B7.of9 hk' hnum hlb (hty.mono hle4) (hfr.mono hle4) (hsl.mono hle4) (hkl.mono hle4), A3i hsm hfit.1.1 hfit.1.2.1 hfit.1.2.2.1, rfl⟩)
 refine A7 ?_
 refine zf0 (fun h47 => ?_) (fun h47 => ?_)
 refine A7 ?_
 refine zf7 (fun b54 => ?_)
 (refine V7 zB0 (fun G4 hle4 hsl4 _ => ?_); refine K4 rfl (A7y G4 br pb nb cb (p + 1) bs _ _ _ _ (hb.mono hle4) hnb zO0 hsl4 zN0) (Pk.perm zB0) rfl rfl (fun v G5 outs hle5 hh => ?_); obtain ⟨rfl, rfl, hv⟩ := hh; obtain ⟨nm', rfl, hnm'⟩ : ∃ nm', v = .string nm' ∧ nm'.size ≤ 2 := (by simp only [List.mem_cons, List.not_mem_nil, or_false] at hv; rcases hv with rfl | rfl | rfl | rfl <;> exact ⟨_, rfl, by decide⟩))
 refine B6 ?_
 refine E2 ([.int .i64 k, .string nm', .int .i64 num, .int .i64 tk, .slice q1 tks.length c1, .int .i64 fk, .slice q2 fks.length c2, .int .i64 lb, .slice q3 ks.length c3], p + 1 + 1, G5) (D6 zA0 zQ) ?_
 (dsimp only; exact ⟨hle4, by omega, by omega, _, B7.of9 hk hnum hlb (hty.mono hle4) (hfr.mono hle4) (hsl.mono hle4) (hkl.mono hle4), A3i hsm zO0 hfit.1.2.1 hfit.1.2.2.1, rfl⟩)
 refine A7 ?_
 refine zf0 (fun h68 => ?_) (fun h68 => ?_)
 refine A7 ?_
 refine zf7 (fun b75 => ?_)
 (refine V7 zB0 (fun G4 hle4 hsl4 _ => ?_); refine K4 rfl (A0F G4 br pb nb cb (p + 1) bs _ _ _ _ (hb.mono hle4) hnb zO0 hsl4 zN0) (Pk.perm zB0) rfl rfl (fun v G5 outs hle5 hh => ?_); obtain ⟨rfl, rfl, hv⟩ := hh; obtain ⟨k', rfl, hk'⟩ : ∃ k', v = .int .i64 k' ∧ F8 k' := zP)
 refine B6 ?_
 refine E2 ([.int .i64 k, .string nm, .int .i64 k', .int .i64 tk, .slice q1 tks.length c1, .int .i64 fk, .slice q2 fks.length c2, .int .i64 lb, .slice q3 ks.length c3], p + 1 + 1, G5) (D6 zA0 zQ) ?_
 (dsimp only; exact ⟨hle4, by omega, by omega, _, B7.of9 hk hk' hlb (hty.mono hle4) (hfr.mono hle4) (hsl.mono hle4) (hkl.mono hle4), A3i hsm hfit.1.1 hfit.1.2.1 hfit.1.2.2.1, rfl⟩)
 refine A7 ?_
 refine zf0 (fun h89 => ?_) (fun h89 => ?_)
 refine B8 ?_
 (refine K4 rfl (B58 br pb nb cb bs hnb (p + 1) _ hb zO0) (Pk.perm zB0) rfl rfl (fun v G3 outs hle3 hh => ?_); obtain ⟨p3, hp31, hp32, rfl, t3, cells3, rfl, hr3, hs3⟩ := hh)
 (refine K4 rfl (B6a br pb nb cb bs hnb p3 _ (hb.mono hle3) zO0 t3 cells3 hr3 hs3) (Pk.perm zB0) rfl rfl (fun v G4 outs hle4 hh => ?_); obtain ⟨p4, hp41, hp42, rfl, t4, cells4, rfl, hr4, hs4⟩ := hh; have hts4 := A4F t4 zO0; obtain ⟨t4k, t4s⟩ := t4; obtain ⟨q4, c4, es4, rfl, _⟩ := hr4.open; have hle24 := hle3.trans hle4)
 refine B6 ?_
 refine E2 ([.int .i64 k, .string nm, .int .i64 num, .int .i64 t4k, .slice q4 t4s.length c4, .int .i64 fk, .slice q2 fks.length c2, .int .i64 lb, .slice q3 ks.length c3], p4, G4) (D6 zA0 zQ) ?_
 (dsimp only; exact ⟨hle24, by omega, by omega, _, B7.of9 hk hnum hlb hr4 (hfr.mono hle24) (hsl.mono hle24) (hkl.mono hle24), A3i hsm hfit.1.1 hts4 hfit.1.2.2.1, rfl⟩)
 refine A7 ?_
 refine zf0 (fun h111 => ?_) (fun h111 => ?_)
 refine E1 ?_
 refine E2 ([.int .i64 k, .string nm, .int .i64 num, .int .i64 tk, .slice q1 tks.length c1, .int .i64 fk, .slice q2 fks.length c2, .int .i64 1, .slice q3 ks.length c3], p + 1, G2) (D6 zA0 zQ) ?_
 (dsimp only; exact ⟨C3.refl _, by omega, by omega, _, B7.of9 hk hnum ⟨by omega, by omega⟩ hty hfr hsl hkl, A3i hsm hfit.1.1 hfit.1.2.1 hfit.1.2.2.1, rfl⟩)
 refine A7 ?_
 refine zf0 (fun h129 => ?_) (fun h129 => ?_)
 refine B1 ?_
 refine F0 rfl ((A2n _)) rfl rfl ?_
 refine B6 ?_
 refine E2 ([.int .i64 k, .string nm, .int .i64 num, .int .i64 tk, .slice q1 tks.length c1, .int .i64 1, .slice none 0 0, .int .i64 lb, .slice q3 ks.length c3], p + 1, G2) (D6 zA0 zQ) ?_
 (dsimp only; exact ⟨C3.refl _, by omega, by omega, _, B7.of9 hk hnum hlb hty (A06 _) hsl hkl, A3i hsm hfit.1.1 hfit.1.2.1 (by simp [Ty.small, Ty.smallL]), rfl⟩)
 refine A7 ?_
 refine E2 ([.int .i64 k, .string nm, .int .i64 num, .int .i64 tk, .slice q1 tks.length c1, .int .i64 fk, .slice q2 fks.length c2, .int .i64 lb, .slice q3 ks.length c3], p + 1, G2) (D6 zA0 zQ) ?_
 (dsimp only; exact ⟨C3.refl _, by omega, by omega, _, B7.of9 hk hnum hlb hty hfr hsl hkl, A3i hsm hfit.1.1 hfit.1.2.1 hfit.1.2.2.1, rfl⟩)
 (rintro ⟨cells9, p9, G9⟩ ⟨hle9, hp9, hp9', t9, hr9, hs9, hc9⟩; simp only [] at hle9 hp9 hp9' hr9 hs9 hc9 ⊢; have hl9 := hr9.len; have ho9 := hr9.one)
 refine A5 ?_
 refine sL (A3 rfl rfl (B9 zG0) hl9) rfl rfl ?_
 refine sS rfl rfl rfl hl9 ho9 rfl ?_ (hu := by exact E0 hl9.symm)
 refine B5 ?_
 refine I6 (outs := [rd br pb nb cb p9]) (rC rfl (A3 rfl rfl (B9 zG0) hl9)) zN ?_
 (exact ⟨p9, by omega, by omega, rfl, t9, cells9, rfl, hr9, hs9, by omega⟩)
section slaw
variable {P : Program} {Γ : M5} {env : M8} {hp : List A9} {G : IM} {ty : TypeId} {K : Po} {ops : Array Oper} {rest : List Oper}
theorem St.slc_open {a : Act} {w : World} {el sz : Nat} {hp' : List A9} (hs : St Γ ⟨env, hp, G⟩ a w) (hk : Pk hp (.slc p c el sz n cs) hp') (h0 : 0 < n) :
  ∃ b C, p = some ⟨b, 0, none⟩ ∧ n ≤ c ∧ c ≤ maxLen ∧ St Γ ⟨env, .blk b (cs ++ C) :: hp', G⟩ a w := by
 have hown : U5 [.slc p c el sz n cs] G w := hs.res.own.of_mem hk.perm
 obtain ⟨hl, h⟩ := hown.ok _ List.mem_cons_self
 rcases h with ⟨hv, hn⟩ | ⟨g, cap, cur, hv, _, hg, hnc, hcm, hsz, ht⟩
 ·omega
 ·cases hv
  refine ⟨g, cur.toList.drop cs.length, rfl, hnc, hcm, ?_⟩
  have hcur : cur.toList = cs ++ cur.toList.drop cs.length := by
   have e : cs.length = n * sz := hl
   rw [e]
   conv => lhs; rw [← List.take_append_drop (n * sz) cur.toList, ht]
  have hr : S0 [.slc (some ⟨g, 0, none⟩) c el sz n cs] G w [.blk g (cs ++ cur.toList.drop cs.length)] G w := by
   refine ⟨⟨hown.inn, ?_, by simp [Fp, A9.fp], ?_⟩, Ext.refl _ _, C3.refl _, fun _ _ h => .inl h, ?_, fun b l h h0 => absurd h (by rw [h0]; simp)⟩
   ·intro e he
    simp at he; subst he
    refine ⟨el, ?_⟩
    rw [← hcur]; simpa using hg
   ·intro b' hb; exact hown.disj b' (by simpa [Fp, A9.fp, K0] using hb)
   ·intro b' hb; exact .inr (by simpa [Fp, A9.fp, K0] using hb)
  exact ⟨hs.size, hs.nod, hs.env, by have := (hs.res.perm hk.perm).frame hr; simpa using this⟩
theorem A3j {el sz : Nat} {hp' : List A9} (hk : Pk hp (.slc p c el sz n cs) hp') (h0 : 0 < n)
  (h : ∀ b C, p = some ⟨b, 0, none⟩ → n ≤ c → c ≤ maxLen → J2 P Γ ops rest K ⟨env, .blk b (cs ++ C) :: hp', G⟩) : J2 P Γ ops rest K ⟨env, hp, G⟩ :=
 ⟨fun a w hs => let ⟨b, C, h1, h2, h3, h4⟩ := hs.slc_open hk h0; (h b C h1 h2 h3).run a w h4⟩
end slaw
theorem B6s (hj : j < es.length) : (es.set j vs).flatten = (es.take j).flatten ++ (vs ++ (es.drop (j + 1)).flatten) := by
 rw [List.set_eq_take_append_cons_drop, if_pos hj]; simp
theorem B0I (hj : j < es.length) : es.flatten = (es.take j).flatten ++ (es[j] ++ (es.drop (j + 1)).flatten) := by
 have h := congrArg List.flatten (List.take_append_drop j es).symm
 rw [List.drop_eq_getElem_cons hj, List.flatten_append, List.flatten_cons] at h
 exact h
theorem A3k {C : List Value} {sz : Nat} (hj : j < es.length) (ha : ∀ e ∈ es, e.length = sz) (hv : vs.length = sz) : T4 (es.flatten ++ C) (0 + j * sz) vs = some ((es.set j vs).flatten ++ C) := by
 have := A68 (A := (es.take j).flatten) (B := es[j]) (C := (es.drop (j + 1)).flatten ++ C) (V := vs) (o := 0 + j * sz)
  (by rw [A0S (fun e he => ha e (List.mem_of_mem_take he)), List.length_take]; rw [Nat.min_eq_left zO0]; omega) (by rw [ha _ (List.getElem_mem hj), hv])
 rw [B0I hj, B6s hj]
 simp only [List.append_assoc] at this ⊢
 exact this
theorem H4.set {G : IM} : ∀ {ks : List Tm} {es : List (List Value)} {j : Nat} {y : Tm} {v : List Value}, H4 G ks es → B7 G y v → H4 G (ks.set j y) (es.set j v)
 | [], es, j, y, v, h, h2 => by simp only [H4] at h; subst h; simp [H4]
 | t :: ts, es, 0, y, v, h, h2 => by
  simp only [H4] at h
  obtain ⟨a, r, rfl, h3, h4⟩ := h
  simp only [List.set_cons_zero, H4]
  exact ⟨v, r, rfl, h2, h4⟩
 | t :: ts, es, j + 1, y, v, h, h2 => by
  simp only [H4] at h
  obtain ⟨a, r, rfl, h3, h4⟩ := h
  simp only [List.set_cons_succ, H4]
  exact ⟨a, r.set j v, rfl, h3, H4.set h4 h2⟩
def B0J : Tm → List Int → Tm → Tm
 | _, [], x => x
 | .mk k nm num ty fr lb ks, i :: is, x => if h : 0 ≤ i ∧ i < ks.length then .mk k nm num ty fr lb (ks.set i.toNat (B0J (ks[i.toNat]'zO0) is x)) else .mk k nm num ty fr lb ks
def TyV (e : Tm) (G : IM) : IM → Value → List A9 → Prop := M3 fun G' v => ∃ t cells b, v = .tuple ⟨[.agg ⟨cells⟩, .bool b]⟩ ∧ C6 G' t cells ∧ H8 t ∧ L3 t ≤ 960 ∧ (b = true → S6 e = true)
theorem A5Z {e : Tm} {ce : List Value} (hr : B7 G e ce) (hs : Sl G p 1 c 9 ce) : D7 G p [e].length c 9 [ce] ∧ H4 G [e] [ce] := by
 refine ⟨D7.of (by simpa using hs) rfl (fun x hx => by simp only [List.mem_singleton] at hx; subst hx; exact hr.len) (fun x hx => by simp only [List.mem_singleton] at hx; subst hx; exact hr.one), ?_⟩
 simp only [H4]
 exact ⟨ce, [], rfl, hr, rfl⟩
def C0B (e : Tm) (label : Int) (G : IM) : IM → Value → List A9 → Prop := M3 fun G' v => ∃ u cu l', v = .tuple ⟨[.agg ⟨cu⟩, .int .i64 l']⟩ ∧ B7 G' u cu ∧ (e.small → u.small) ∧ H9 u ≤ H9 e + 1 ∧ label ≤ l' ∧ l' ≤ label + 1
def C0C (n : Nat) (G : IM) : IM → Value → List A9 → Prop := M3 fun G' v => ∃ p c es ws, v = .slice p n c ∧ ws.length = n ∧ D7 G' p n c 2 es ∧ E7 G' ws es ∧ ∀ w ∈ ws, H8 w
theorem H4.at2 {ts : List Tm} {i : Nat} (h : H4 G ts es) (h1 : i < ts.length) (h2 : i < es.length) : i < es.length ∧ B7 G ts[i] es[i] := by
 have := (h.inv (List.getElem?_eq_getElem h2) L7).2
 rw [List.getD_eq_getElem?_getD, List.getElem?_eq_getElem h1] at this
 exact ⟨h2, this⟩
mutual
theorem B0K : ∀ (t : Tm) (d : Int), O9 12 14 t d = true → t.small
 | .mk k nm num ty fr lb ks, d, h => by
  obtain ⟨h1, h2, h3, h4⟩ := A07 h
  have hn := W0.1 h3
  rw [Tm.small]
  refine ⟨?_, (A3Z h3).1.small, ?_, ?_, B0L ks _ h4⟩
  ·by_cases hk : k = 1 ∨ k = 5
   ·have := hn.2.1 hk
    simp only [Z0, decide_eq_true_eq] at this
    omega
   ·rw [hn.2.2.1 hk]; decide
  ·rw [A2S (hn.2.2.2.2.2.2.2.2 zO0).1]
   simp [C5, Ty.small, Ty.smallL]
  ·have := A1G k
   omega
theorem B0L : ∀ (ts : List Tm) (d : Int), P0 12 14 ts d = true → Tm.smallL ts
 | [], d, h => by rw [Tm.smallL]; trivial
 | t :: ts, d, h => by
  rw [P0, Bool.and_eq_true] at h
  rw [Tm.smallL]
  exact ⟨B0K t d h.1, B0L ts d h.2⟩
end
theorem A50 {sz i : Nat} {C : List Value} (hm : A9.blk b (es.flatten ++ C) ∈ hp) (hi : i < es.length) (ha : ∀ e ∈ es, e.length = sz) : At hp G b (0 + i * sz) es[i] := by
 refine .inl ⟨_, hm, fun j u hu => ?_⟩
 rw [B0I hi, List.append_assoc, List.append_assoc]
 have hl : (es.take i).flatten.length = i * sz := by
  rw [A0S (fun e he => ha e (List.mem_of_mem_take he)), List.length_take, Nat.min_eq_left zO0]
 have hj : j < es[i].length := (List.getElem?_eq_some_iff.1 hu).1
 rw [List.getElem?_append_right zO0, show 0 + i * sz + j - (es.take i).flatten.length = j by omega, List.getElem?_append_left hj]
 exact hu
def C0D (e : Tm) (label : Int) (G : IM) : IM → Value → List A9 → Prop := M3 fun G' v => ∃ u cu t ct l', v = .tuple ⟨[.agg ⟨cu⟩, .agg ⟨ct⟩, .int .i64 l']⟩ ∧ B7 G' u cu ∧ u.small ∧ H9 u + 1 ≤ 2 * H9 e ∧ C6 G' t ct ∧ H8 t ∧ L3 t ≤ 32 * (H9 e : Int) ∧ label ≤ l' ∧ l' + 1 ≤ label + 2 * (H9 e : Int)
def A0n (t : Ty) : Ty := if t.k = 4 ∨ t.k = 5 then .mk t.k [R1, R1] else .mk t.k []
def U7 (t : Ty) : Bool := decide (t.k ≠ 1) && N1 t (A0n t)
def T8 (t : Tm) : Bool := decide (t.k = 14 ∧ t.fr.k = t.ty.k ∧ (t.ty.k = 4 ∨ t.ty.k = 5))
def inj (t : Tm) : Bool := decide (t.k = 14 ∧ t.ty.k = 1) && U7 t.fr
mutual
def H5 : Tm → Bool
 | .mk k nm num ty fr lb ks => if k = 10 ∨ (k = 14 ∧ fr.k = ty.k ∧ (ty.k = 4 ∨ ty.k = 5)) ∨ (k = 14 ∧ ty.k = 1 ∧ U7 fr = true) then A1H ks else decide (k = 2 ∨ k = 3 ∨ k = 4 ∨ k = 5)
def A1H : List Tm → Bool
 | [] => true
 | t :: ts => H5 t && A1H ts
end
mutual
def V5 (x : ByteArray) (v : Tm) : Tm → Tm
 | .mk k nm num ty fr lb ks => if k = 1 ∧ nm = x then v else if k = 5 ∧ nm = x then .mk k nm num ty fr lb ks else .mk k nm num ty fr lb (U8 x v ks)
def U8 (x : ByteArray) (v : Tm) : List Tm → List Tm
 | [] => []
 | t :: ts => V5 x v t :: U8 x v ts
end
theorem A7G (x : ByteArray) (v : Tm) : ∀ ks, U8 x v ks = ks.map (V5 x v)
 | [] => rfl
 | t :: ts => by rw [U8, A7G x v ts, List.map_cons]
def O1 (e : Tm) (fr to : Ty) (lb : Int) : Tm := .mk 14 ⟨#[]⟩ 0 to fr lb [e]
def A0a (k : Int) (ks : List Tm) : Tm := .mk k ⟨#[]⟩ 0 C5 C5 0 ks
def A2q (n : Int) : Tm := .mk 2 ⟨#[]⟩ n C5 C5 0 []
def U3 (b : Prop) [Decidable b] : Tm := A0a (if b then 3 else 4) []
abbrev Stp := Tm × Int × Int
def V6 : Stp := (L7, 3, 0)
def kd (ks : List Tm) (i : Nat) : Tm := ks.getD i L7
def kt (ks : List Ty) (i : Nat) : Ty := ks.getD i C5
def W4 (k : Int) (ty fr : Ty) (lb : Int) (ks : List Tm) : Stp :=
 if k = 6 then
  (if (kd ks 0).k = 5 then (V5 (kd ks 0).nm (kd ks 1) (kd (kd ks 0).ks 0), 1, 0)
   else if T8 (kd ks 0) = true ∧ (kd ks 0).ty.k = 4 then (O1 (A0a 6 [kd (kd ks 0).ks 0, O1 (kd ks 1) (kt (kd ks 0).ty.ks 0) (kt (kd ks 0).fr.ks 0) (-(kd ks 0).lb)]) (kt (kd ks 0).fr.ks 1) (kt (kd ks 0).ty.ks 1) (kd ks 0).lb, 1, 0)
   else V6)
 else if k = 7 ∨ k = 8 then
  (if (kd ks 0).k = 2 ∧ (kd ks 1).k = 2 then (if k = 7 then A2q (((kd ks 0).num + (kd ks 1).num) % 1000) else U3 ((kd ks 0).num < (kd ks 1).num), 1, 0) else V6)
 else if k = 9 then (if (kd ks 0).k = 3 then (kd ks 1, 1, 0) else if (kd ks 0).k = 4 then (kd ks 2, 1, 0) else V6)
 else if k = 11 ∨ k = 12 then
  (if (kd ks 0).k = 10 then (kd (kd ks 0).ks (k - 11).toNat, 1, 0)
   else if T8 (kd ks 0) = true ∧ (kd ks 0).ty.k = 5 then (O1 (A0a k [kd (kd ks 0).ks 0]) (kt (kd ks 0).fr.ks (k - 11).toNat) (kt (kd ks 0).ty.ks (k - 11).toNat) (kd ks 0).lb, 1, 0)
   else V6)
 else if k = 14 then
  (if fr.k = ty.k then (kd ks 0, 1, 0)
   else if ty.k = 1 then (O1 (O1 (kd ks 0) fr (A0n fr) lb) (A0n fr) ty lb, 1, 0)
   else if U7 ty = false then (O1 (O1 (kd ks 0) fr (A0n ty) lb) (A0n ty) ty lb, 1, 0)
   else if inj (kd ks 0) = false then V6
   else if (kd ks 0).fr.k = ty.k then (kd (kd ks 0).ks 0, 1, 0)
   else (L7, 2, lb))
 else V6
mutual
def I8 : Tm → Stp
 | .mk k nm num ty fr lb ks => match X5 (if k = 9 then 1 else ks.length) ks with
  | some (ks', c, l) => if c = 1 then (.mk k nm num ty fr lb ks', 1, 0) else (L7, c, l)
  | none => W4 k ty fr lb ks
def X5 : Nat → List Tm → Option (List Tm × Int × Int)
 | _, [] => none
 | n, t :: ts => match n with
  | 0 => none
  | n + 1 => if H5 t = true then (match X5 n ts with
    | some (us, c, l) => some (t :: us, c, l)
    | none => none)
   else some ((I8 t).1 :: ts, (I8 t).2.1, (I8 t).2.2)
end
def I2 (e : Tm) : Stp :=
 if P7 e = false then V6 else if H5 e = true then (e, 0, 0)
 else if (I8 e).2.1 ≠ 1 then (L7, (I8 e).2.1, (I8 e).2.2)
 else if P7 (I8 e).1 = false then (L7, 4, 0) else ((I8 e).1, 1, 0)
def M1 : Nat → Tm → Tm × Int × Int × Nat
 | 0, e => if (I2 e).2.1 = 1 then (L7, 5, 0, 0) else ((I2 e).1, (I2 e).2.1, (I2 e).2.2, 0)
 | n + 1, e => if (I2 e).2.1 = 1 then ((M1 n (I2 e).1).1, (M1 n (I2 e).1).2.1, (M1 n (I2 e).1).2.2.1, (M1 n (I2 e).1).2.2.2 + 1)
  else ((I2 e).1, (I2 e).2.1, (I2 e).2.2, 0)
def P1 (e : Tm) (fuel : Int) : Stp := if 0 ≤ fuel ∧ fuel ≤ 300 then ((M1 fuel.toNat e).1, (M1 fuel.toNat e).2.1, (M1 fuel.toNat e).2.2.1) else V6
def C0E (e : Tm) (fuel : Int) : Int := if 0 ≤ fuel ∧ fuel ≤ 300 then ((M1 fuel.toNat e).2.2.2 : Int) else 0
structure CvN (k : Int) (nm : ByteArray) (num : Int) (ty fr : Ty) (lb : Int) (ks : List Tm) : Prop where
 ops : E4 k = ks.length
 ne : k ≠ 13
 nm1 : nm.size ≤ 1
 num0 : 0 ≤ num ∧ num ≤ 999
 tyA : H8 ty
 frA : H8 fr
 lbB : -99 ≤ lb ∧ lb ≤ 99
 c14 : k = 14 → K8 fr ty = true ∧ H7 ty = true ∧ H7 fr = true
 ty5 : ¬(k = 5 ∨ k = 14) → ty = C5
 fr14 : k ≠ 14 → fr = C5 ∧ lb = 0
def cv (t : Tm) : Prop := ∃ d, O9 40 13 t d = true
theorem A2U {n lo hi : Int} : Q5 n lo hi = true ↔ lo ≤ n ∧ n ≤ hi := by unfold Q5; rw [decide_eq_true_eq]
theorem cv.node {k : Int} {nm : ByteArray} {num : Int} {ty fr : Ty} {lb : Int} {ks : List Tm} (h : cv (.mk k nm num ty fr lb ks)) : CvN k nm num ty fr lb ks ∧ ∀ t ∈ ks, cv t := by
 obtain ⟨d, h⟩ := h
 obtain ⟨_, h2, h3, h4⟩ := A07 h
 obtain ⟨n1, n2, n3, n4, n5, n6, n7, n8, n9⟩ := W0.1 h3
 refine ⟨⟨n1, h2, B0H h3, ?_, (A3Z h3).1, ?_, ?_, ?_, ?_, ?_⟩, fun t ht => ?_⟩
 ·by_cases hk : k = 2
  ·exact A2U.1 (n4 hk)
  ·have := A2U.1 (n5 hk); omega
 ·by_cases hk : k = 14
  ·have := (n8 hk).1
   simp only [A0R, Bool.and_eq_true] at this
   exact (A4O this.1.1).1
  ·rw [A2S (n9 hk).1]; exact S8 zN0 zN0
 ·by_cases hk : k = 14
  ·have := (n8 hk).2
   simp only [A0C, Bool.or_eq_true, A2U] at this
   omega
  ·have := (n9 hk).2; omega
 ·intro hk
  have := (n8 hk).1
  simp only [A0R, Bool.and_eq_true] at this
  exact ⟨this.2, this.1.2, this.1.1⟩
 ·intro hk
  exact A2S (n7 zO0)
 ·intro hk
  exact ⟨A2S (n9 hk).1, (n9 hk).2⟩
 ·obtain ⟨i, hi, rfl⟩ := List.mem_iff_getElem.1 ht
  exact ⟨_, (A1Q 40 13 ks _).1 h4 i hi⟩
theorem A1S {t : Tm} (h : P7 t = true) : cv t ∧ H9 t ≤ 200 := by
 obtain ⟨h1, h2⟩ := (A5T t).1 h
 exact ⟨⟨1, h1⟩, h2⟩
mutual
theorem A51 : ∀ (t : Tm), cv t → t.small
 | .mk k nm num ty fr lb ks, h => by
  obtain ⟨hn, hk⟩ := h.node
  rw [Tm.small]
  refine ⟨by have := hn.nm1; omega, hn.tyA.small, hn.frA.small, ?_, B0M ks hk⟩
  have := A1G k
  have := hn.ops
  omega
theorem B0M : ∀ (ts : List Tm), (∀ t ∈ ts, cv t) → Tm.smallL ts
 | [], _ => by rw [Tm.smallL]; trivial
 | t :: ts, h => by
  rw [Tm.smallL]
  exact ⟨A51 t (h t List.mem_cons_self), B0M ts fun u hu => h u (List.mem_cons_of_mem _ hu)⟩
end
theorem A2r (k : Int) (nm : ByteArray) (num : Int) (ty fr : Ty) (lb : Int) (ks : List Tm) : H9 (.mk k nm num ty fr lb ks) = I3 ks + 1 := by rw [H9]
theorem A4P {k : Int} {nm : ByteArray} {num : Int} {ty fr : Ty} {lb : Int} {ks : List Tm} : (Tm.mk k nm num ty fr lb ks).small ↔ nm.size ≤ 4294967296 ∧ ty.small ∧ fr.small ∧ ks.length ≤ 4294967296 ∧ Tm.smallL ks := by rw [Tm.small]
theorem B6t : L7.small := by simp [L7, Tm.small, Ty.small, Ty.smallL, Tm.smallL, ByteArray.size]
theorem B0N : C5.small := by simp [C5, Ty.small, Ty.smallL]
theorem B6u (e : Tm) (a b : Ty) (l : Int) : H9 (O1 e a b l) = H9 e + 1 := by rw [O1, A2r, I3, I3]
theorem B6v : H9 L7 = 1 := by simp [L7, H9, I3]
variable {P : Program} {G : IM}
variable {post : IM → Value → List A9 → Prop} {f : FuncId}
theorem Fn.forget {args : List Value} {v0 : Value} (h : Fn P f args [] G post) (hv : ∀ G' v outs, post G' v outs → v = v0) : Fn P f args [] G (I1 v0 G) := by
 refine ⟨fun w hw => (h.run w hw).mono ?_⟩
 rintro e w' ⟨u, G', outs, rfl, hres, hp⟩
 refine ⟨u, G, [], rfl, ⟨⟨fun b l hb => hres.own.inn b l (hres.le b l hb), by simp, by simp [Fp], by simp [Fp]⟩, hres.ext, C3.refl _, fun _ _ h => .inl h, by simp [Fp], fun b l h h0 => absurd h (by rw [h0]; simp)⟩, rfl, hv _ _ _ hp, rfl⟩
def A7H (u : Ty) (G : IM) : IM → Value → List A9 → Prop := M3 fun G' v => ∃ cells, v = .agg ⟨cells⟩ ∧ C6 G' u cells
def A2s (r : Option Ty) (G : IM) : IM → Value → List A9 → Prop := M3 fun G' v => ∃ cells u, v = .tuple ⟨[.agg ⟨cells⟩, .bool r.isSome]⟩ ∧ C6 G' u cells ∧ ∀ t, r = some t → u = t
theorem B6w {k : Int} {a b : Ty} {ca cb : List Value} (hk : F8 k) (ha : C6 G a ca) (hb : C6 G b cb) (hs : Sl G p 2 c 2 (ca ++ cb)) : C6 G (.mk k [a, b]) [.int .i64 k, .slice p 2 c] := by
 have hL : E7 G [a, b] [ca, cb] := by simp only [E7]; exact ⟨ca, [cb], rfl, ha, cb, [], rfl, hb, rfl⟩
 exact E7.ty (ts := [a, b]) (es := [ca, cb]) hL rfl (by simpa using hs) hk
theorem A7I : ∀ (t t' : Ty) (G : IM) (cells cells' : List Value), C6 G t cells → C6 G t' cells' → Fn prog 29 [.agg ⟨cells⟩, .agg ⟨cells'⟩] [] G (I1 (.bool (N1 t t')) G) := by
 refine Ty.ind fun k ks ih t' G cells cells' hr hr' => ?_
 obtain ⟨k', ks'⟩ := t'
 obtain ⟨p, c, es, rfl, hk, hsl, hkl⟩ := hr.open
 obtain ⟨p', c', es', rfl, hk', hsl', hkl'⟩ := hr'.open
 simp only [Ty.k, Ty.ks] at hk hsl hkl hk' hsl' hkl' ⊢
 obtain ⟨A, hA⟩ : ∃ A, A0E ks ks' = A := ⟨_, rfl⟩
 have hA' : A = true ↔ ks.length = ks'.length ∧ ∀ i, i < ks.length → N1 (ks.getD i C5) (ks'.getD i C5) = true := by
  rw [← hA, A4J]
  constructor
  ·rintro ⟨h1, h2⟩
   refine ⟨h1, fun i hi => ?_⟩
   have := h2 i hi zO0
   simpa [List.getD_eq_getElem?_getD, List.getElem?_eq_getElem hi, List.getElem?_eq_getElem (show i < ks'.length by omega)] using this
  ·rintro ⟨h1, h2⟩
   refine ⟨h1, fun i hi hi' => ?_⟩
   have := h2 i hi
   simpa [List.getD_eq_getElem?_getD, List.getElem?_eq_getElem hi, List.getElem?_eq_getElem hi'] using this
 refine C4 func29 rfl ntmps29 results29 rfl ?_
 intro w0
 refine A5 ?_
 refine zf2 (fun b3 => ?_)
 refine zf2 (fun b4 => ?_)
 refine E1 ?_
 refine zf0 (fun h14 => ?_) (fun h14 => ?_)
 refine B1 ?_
 refine F0 rfl (A95 _ _ _ _ _ _ _ _ _ hsl hsl' _ [] [] [] (fun i => N1 (ks.getD i C5) (ks'.getD i C5)) A hA' (fun i e e' he he' => ih _ (hkl.inv he C5).1 _ _ _ _ (hkl.inv he C5).2 (hkl'.inv he' C5).2)) rfl rfl ?_
 refine A7 ?_
 exact ⟨rfl, by rw [A3e, hA]; first | (rw [decide_eq_true (p := k = k') zO0]; rfl) | (rw [decide_eq_false (p := k = k') zO0]; rfl), rfl⟩
 refine P3 ?_
 exact ⟨rfl, by rw [A3e, hA]; first | (rw [decide_eq_true (p := k = k') zO0]; rfl) | (rw [decide_eq_false (p := k = k') zO0]; rfl), rfl⟩
theorem A2V (k : Int) (a b : Ty) (G : IM) (ca cb : List Value) (hk : F8 k) (hra : C6 G a ca) (hrb : C6 G b cb) :
  Fn prog 114 [.int .i64 k, .agg ⟨ca⟩, .agg ⟨cb⟩] [] G (A7H (.mk k [a, b]) G) := by
 obtain ⟨pa, cca, ea, rfl, _⟩ := hra.open
 obtain ⟨pb, ccb, eb, rfl, _⟩ := hrb.open
 refine C4 func114 rfl ntmps114 results114 rfl ?_
 intro w0
 refine A5 ?_
 refine zf2 (fun b3 => ?_)
 refine zf2 (fun b4 => ?_)
 refine zf1 (fun b5 => ?_)
 refine B8 ?_
 refine zf7 (fun b13 => ?_)
 refine B6 ?_
 (refine H1 zB0 (fun G5 hle5 hsl5 hno5 => ?_))
 refine tT ?_
 refine zf9 ?_
 exact ⟨rfl, _, rfl, B6w hk (hra.mono hle5) (hrb.mono hle5) hsl5⟩
theorem A1I (k tk : Int) (ks : List Ty) : S7 k (.mk tk ks) = if tk = k then some (ks.getD 0 C5, ks.getD 1 C5) else if tk = 1 then some (R1, R1) else none := rfl
def B0O (k : Int) (t : Ty) (G : IM) : IM → Value → List A9 → Prop := M3 fun G' v => ∃ a ca b cb, v = .tuple ⟨[.agg ⟨ca⟩, .agg ⟨cb⟩, .bool (S7 k t).isSome]⟩ ∧ C6 G' a ca ∧ C6 G' b cb ∧ H8 a ∧ H8 b ∧ ∀ p, S7 k t = some p → p = (a, b)
theorem B0P (k : Int) (t : Ty) (G : IM) (cells : List Value) (hk : k = 4 ∨ k = 5) (ha : H8 t) (hr : C6 G t cells) :
  Fn prog 115 [.agg ⟨cells⟩, .int .i64 k] [] G (B0O k t G) := by
 obtain ⟨tk, ks⟩ := t
 have ha2 := ha
 rw [H8] at ha2
 have hkid := ha.kid
 obtain ⟨p, c, es, rfl, htk, hsl, hkl⟩ := hr.open
 simp only [Ty.k, Ty.ks] at htk hsl hkl ⊢
 refine C4 func115 rfl ntmps115 results115 rfl ?_
 intro w0
 refine A5 ?_
 refine zf2 (fun b3 => ?_)
 refine zf1 (fun b4 => ?_)
 refine zf1 (fun b5 => ?_)
 refine I9 ?_
 refine C2 (tS (tR (sQ (qM rfl) rfl (sB (qE rfl rfl) rfl rfl (fun h20 => ?_) (fun h20 => ?_)))))
 refine B1 ?_
 (have hlen : ks.length = 2 := ha2.1 zO0; obtain ⟨b, o, q0, d0, hp0, hat0, hre0, hg0⟩ := hsl.kidTy hkl (i := 0) zO0 zO0; obtain ⟨b', o', q1, d1, hp1, hat1, hre1, hg1⟩ := hsl.kidTy hkl (i := 1) zO0 zO0; subst hp0; cases hp1; refine zdd D9 rfl ?_)
 refine xx8 0 1 2 3 4 5 6 7 ?_
 refine A2 8 ?_
 refine E9 rfl ?_
 refine A2 9 ?_
 refine E9 rfl ?_
 refine xx1 10 ?_
 refine B1 ?_
 refine zf20 ?_
 (refine ⟨rfl, _, _, _, _, ?_, hre0, hre1, hkid _ (List.getElem_mem zO0), hkid _ (List.getElem_mem zO0), ?_⟩ <;> rw [A1I, if_pos zO0] <;> first | rfl | (intro p hp; cases hp; simp [hlen]))
 refine A7 ?_
 refine zf0 (fun h53 => ?_) (fun h53 => ?_)
 refine A7 ?_
 refine F0 rfl ((A2k _ _)) rfl rfl ?_
 refine F0 rfl ((A2k _ _)) rfl rfl ?_
 refine D4 ?_
 refine zf20 ?_
 (refine ⟨rfl, _, _, _, _, ?_, A06 _, A06 _, A4H, A4H, ?_⟩ <;> rw [A1I, if_neg zO0, if_pos zO0] <;> first | rfl | (intro p hp; cases hp; rfl))
 refine W8 ?_
 refine zf20 ?_
 (refine ⟨rfl, C5, _, C5, _, ?_, N2 _ ⟨by omega, by omega⟩, N2 _ ⟨by omega, by omega⟩, S8 zO0 zO0, S8 zO0 zO0, ?_⟩ <;> rw [A1I, if_neg zO0, if_neg zO0] <;> first | rfl | (intro p hp; cases hp))
def A30 (G : IM) (b : ByteArray × Ty) (e : List Value) : Prop := ∃ q d, e = [.string b.1, .int .i64 b.2.k, .slice q b.2.ks.length d] ∧ C6 G b.2 [.int .i64 b.2.k, .slice q b.2.ks.length d]
theorem A30.mono {G G' : IM} {b : ByteArray × Ty} {e : List Value} (h : A30 G b e) (hg : C3 G G') : A30 G' b e := by
 obtain ⟨q, d, h1, h2⟩ := h
 exact ⟨q, d, h1, h2.mono hg⟩
def S9 (G : IM) (cx : Cx) (p : Option Addr) (n c : Nat) : Prop := n = cx.length ∧ ∃ es : List (List Value), D7 G p n c 3 es ∧ ∀ (i : Nat) (b : ByteArray × Ty), cx[i]? = some b → ∃ e, es[i]? = some e ∧ A30 G b e
theorem S9.mono {G G' : IM} {cx : Cx} {p : Option Addr} {n c : Nat} (h : S9 G cx p n c) (hg : C3 G G') : S9 G' cx p n c := by
 obtain ⟨h1, es, h2, h3⟩ := h
 refine ⟨h1, es, h2.mono hg, fun i b hb => ?_⟩
 obtain ⟨e, he, hr⟩ := h3 i b hb
 exact ⟨e, he, hr.mono hg⟩
theorem S9.nil (G : IM) : S9 G [] none 0 0 := ⟨rfl, [], D7.nil _ _, by simp⟩
theorem S9.le {G : IM} {cx : Cx} {p : Option Addr} {n c : Nat} (h : S9 G cx p n c) : n ≤ 9223372036854775807 := by
 obtain ⟨h1, es, h2, h3⟩ := h
 exact h2.le
theorem S9.get {G : IM} {cx : Cx} {p : Option Addr} {n c : Nat} (h : S9 G cx p n c) {i : Nat} (hi : i < n) :
  ∃ b o nm t q d, cx[i]? = some (nm, t) ∧ p = some ⟨b, o, none⟩ ∧ (∀ hp, At hp G b (o + i * 3) [.string nm, .int .i64 t.k, .slice q t.ks.length d]) ∧ C6 G t [.int .i64 t.k, .slice q t.ks.length d] ∧ G b ≠ none := by
 obtain ⟨h1, es, h2, h3⟩ := h
 obtain ⟨e, b, o, he, rfl, hl, _, hat, hgb⟩ := h2.get (i := i) zO0
 have hx : cx[i]? = some cx[i] := List.getElem?_eq_getElem zO0
 obtain ⟨e', he', q, d, h4, h5⟩ := h3 i _ hx
 rw [he] at he'
 obtain rfl := Option.some.inj he'
 rw [h4] at hat
 exact ⟨b, o, cx[i].1, cx[i].2, q, d, hx, rfl, hat, h5, hgb⟩
theorem B6x (G : IM) (cx : Cx) (p : Option Addr) (n c : Nat) (nm : ByteArray) (hx : S9 G cx p n c) :
  Fn prog 113 [.slice p n c, .string nm] [] G (A2s (Q0 cx nm) G) := by
 have hn := hx.le
 have hn1 := hx.1
 refine C4 func113 rfl ntmps113 results113 rfl ?_
 intro w0
 refine A5 ?_
 refine zf1 (fun b3 => ?_)
 refine D4 ?_
 refine zf14 ?_
 refine B5 ?_
 refine C2 ?_
 (refine K2 (fun (i : Nat) => ⟨[(6, .int .i64 ((i : Int) - 1)), (0, .slice p n c), (1, .string nm), (4, .pointer (some ⟨b3, 0, none⟩))], [.blk b3 [.int .i64 0, .slice none 0 0]], G⟩) (fun i => i ≤ n ∧ X1 cx nm i = Q0 cx nm) (fun i => i) n ?_ ?_ ?_)
 exact E3
 exact ⟨Nat.le_refl _, by rw [hn1]; rfl⟩
 (rintro i ⟨hi, hlk⟩)
 refine B6 ?_
 refine sB (A1g rfl rfl) rfl rfl (fun h25 => ?_) (fun h25 => ?_)
 refine A7 ?_
 (show J9 _ _ (.block 1 _) _ _; obtain ⟨j, rfl⟩ : ∃ j, i = j + 1 := ⟨i - 1, by omega⟩; rw [show ((j + 1 : Nat) : Int) - 1 = (j : Int) from by omega]; obtain ⟨b, o, nm1, t1, q1, d1, hcx, rfl, hat, hr1, hgb⟩ := hx.get (i := j) zO0; refine C2 ?_)
 refine B6 ?_
 refine sP (B2 rfl rfl rfl zO0) rfl rfl ?_
 refine I0 ?_
 refine sL (A0t rfl rfl ((hat _).sub (j := 0) rfl)) rfl rfl ?_
 refine I0 ?_
 refine sB (A1h rfl rfl) rfl rfl (fun h41 => ?_) (fun h41 => ?_)
 refine B8 ?_
 refine sP (B2 rfl rfl rfl zO0) rfl rfl ?_
 refine I0 ?_
 refine sL (A3 rfl rfl (hat _).drop rfl) rfl rfl ?_
 refine I9 ?_
 refine zf5 ?_
 (rw [A4K hcx zL0] at hlk; rw [← hlk]; exact ⟨rfl, _, _, rfl, hr1, fun t ht => by cases ht; rfl⟩)
 refine D4 ?_
 refine zf14 ?_
 refine A5 ?_
 refine J7 j ?_ ?_ ?_
 exact E3
 (rw [A4L hcx zL0] at hlk; exact ⟨by omega, hlk⟩)
 (show _ < _ + 1; omega)
 refine L9 ?_
 refine zf5 ?_
 (obtain rfl : i = 0 := zO0; rw [X1] at hlk; rw [← hlk]; exact ⟨rfl, _, C5, rfl, N2 _ ⟨by omega, by omega⟩, fun t ht => by cases ht⟩)
theorem B6y {xs ys : List Ty} (h : xs.length = 2) (h' : ys.length = 2) : W2 xs ys = [X2 (xs[0]'zO0) (ys[0]'zO0), X2 (xs[1]'zO0) (ys[1]'zO0)] := by
 match xs, ys, h, h' with
 | [a, b], [c, d], _, _ => rfl
theorem B6z {k k' : Int} {ks bs : List Ty} (h : K8 (.mk k ks) (.mk k' bs) = true) (hk : k ≠ 1) (hk' : k' ≠ 1) : k = k' ∧ O0 ks bs = true := by
 rw [T6] at h
 simpa [hk, hk'] using h
theorem B0Q : ∀ (a b : Ty) (G : IM) (ca cb : List Value), K8 a b = true → H8 a → H8 b → C6 G a ca → C6 G b cb →
  Fn prog 117 [.agg ⟨ca⟩, .agg ⟨cb⟩] [] G (A7H (X2 a b) G) := by
 refine Ty.ind fun k ks ih b G ca cb hc haa hab hra hrb => ?_
 have hsa := haa.small
 have hsb := hab.small
 obtain ⟨bk, bks⟩ := b
 have hra0 := hra
 have hrb0 := hrb
 have ha2 := haa
 have hb2 := hab
 rw [H8] at ha2 hb2
 have hkida := haa.kid
 have hkidb := hab.kid
 obtain ⟨p, c, es, rfl, hk, hsl, hkl⟩ := hra.open
 obtain ⟨p', c', es', rfl, hk', hsl', hkl'⟩ := hrb.open
 simp only [Ty.k, Ty.ks] at hk hsl hkl hk' hsl' hkl' ⊢
 have hn := hsl.le
 rw [A3U]
 refine C4 func117 rfl ntmps117 results117 rfl ?_
 intro w0
 refine A5 ?_
 refine zf2 (fun b3 => ?_)
 refine zf2 (fun b4 => ?_)
 refine zf1 (fun b5 => ?_)
 refine B5 ?_
 refine C2 ?_
 refine B6 ?_
 refine zf0 (fun h14 => ?_) (fun h14 => ?_)
 refine B8 ?_
 (refine H6 rfl (A3V _ _ _ hsb hrb0) rfl rfl (fun v G1 hle1 hh => ?_); obtain ⟨cs1, F1, rfl, hs1, hn1⟩ := hh; obtain ⟨p1, c1, rfl, _⟩ := hs1.open; have hr1 := hs1.R.mono (E8.le G1 _))
 refine A7 ?_
 refine zf9 ?_
 (rw [if_pos zO0]; exact ⟨rfl, _, rfl, hr1⟩)
 refine D4 ?_
 refine zf0 (fun h39 => ?_) (fun h39 => ?_)
 refine K7 ?_
 (refine H6 rfl (A3V _ _ _ hsa hra0) rfl rfl (fun v G1 hle1 hh => ?_); obtain ⟨cs1, F1, rfl, hs1, hn1⟩ := hh; obtain ⟨p1, c1, rfl, _⟩ := hs1.open; have hr1 := hs1.R.mono (E8.le G1 _))
 refine A7 ?_
 refine zf9 ?_
 (rw [if_neg zO0]; split <;> first | exact ⟨rfl, _, rfl, hr1⟩ | (obtain rfl : ks = [] := List.length_eq_zero_iff.1 zO0; rw [W2]; exact ⟨rfl, _, rfl, hr1⟩; simp))
 refine B6 ?_
 refine zf0 (fun h66 => ?_) (fun h66 => ?_)
 refine D4 ?_
 (refine H6 rfl (A3V _ _ _ hsa hra0) rfl rfl (fun v G1 hle1 hh => ?_); obtain ⟨cs1, F1, rfl, hs1, hn1⟩ := hh; obtain ⟨p1, c1, rfl, _⟩ := hs1.open; have hr1 := hs1.R.mono (E8.le G1 _))
 refine A7 ?_
 refine zf9 ?_
 (rw [if_neg zO0]; split <;> first | exact ⟨rfl, _, rfl, hr1⟩ | (obtain rfl : ks = [] := List.length_eq_zero_iff.1 zO0; rw [W2]; exact ⟨rfl, _, rfl, hr1⟩; simp))
 refine E1 ?_
 (obtain ⟨hkk, hcl0⟩ := B6z hc zO0 zO0; subst hkk; have hcl := (A2K _ _).1 hcl0; have hlen : ks.length = 2 := (by have := ha2.2.1; have := ha2.1; omega); have hlen' : bks.length = 2 := zO0; obtain ⟨b0, o0, q0, d0, hp0, hat0, hre0, hg0⟩ := hsl.kidTy hkl (i := 0) zO0 zO0; obtain ⟨b1, o1, q1, d1, hp1, hat1, hre1, hg1⟩ := hsl.kidTy hkl (i := 1) zO0 zO0; subst hp0; cases hp1; obtain ⟨b2, o2, q2, d2, hp2, hat2, hre2, hg2⟩ := hsl'.kidTy hkl' (i := 0) zO0 zO0; obtain ⟨b3, o3, q3, d3, hp3, hat3, hre3, hg3⟩ := hsl'.kidTy hkl' (i := 1) zO0 zO0; subst hp2; cases hp3; have hM1 := ih ks[0] (List.getElem_mem zO0) bks[0] G _ _ (hcl.2 0 zO0 zO0) (hkida _ (List.getElem_mem zO0)) (hkidb _ (List.getElem_mem zO0)) hre0 hre2; refine zdd D9 rfl ?_)
 refine xx18 0 1 2 3 4 5 6 7 8 9 11 12 13 14 15 16 17 18 ?_
 refine A2 10 ?_
 (refine E6 rfl rfl hM1 rfl rfl rfl (fun v G1 hle1 hh => ?_); obtain ⟨cm1, rfl, hm1⟩ := hh; have hM2 := ih ks[1] (List.getElem_mem zO0) bks[1] G1 _ _ (hcl.2 1 zO0 zO0) (hkida _ (List.getElem_mem zO0)) (hkidb _ (List.getElem_mem zO0)) (hre1.mono hle1) (hre3.mono hle1))
 refine A2 19 ?_
 (refine E6 rfl rfl hM2 rfl rfl rfl (fun v G2 hle2 hh => ?_); obtain ⟨cm2, rfl, hm2⟩ := hh; have hB := A2V k _ _ G2 _ _ hk (hm1.mono hle2) hm2)
 refine A2 20 ?_
 (refine E6 rfl rfl hB rfl rfl rfl (fun v G3 hle3 hh => ?_); obtain ⟨cm3, rfl, hm3⟩ := hh; obtain ⟨p5, c5, e5, rfl, _⟩ := hm3.open)
 refine A2 21 ?_
 refine E9 rfl ?_
 refine B5 ?_
 refine zf9 ?_
 (rw [if_neg zO0, if_neg zO0]; rw [B6y hlen hlen']; exact ⟨rfl, _, rfl, hm3⟩)
def TmP (t : Tm) : IM → Value → List A9 → Prop := M3 fun G' v => ∃ cells, v = .agg ⟨cells⟩ ∧ B7 G' t cells
theorem TmP.mk {t : Tm} {cells : List Value} (h : B7 G t cells) : TmP t G (.agg ⟨cells⟩) [] := ⟨rfl, cells, rfl, h⟩
def mGk (k : Int) : Ty := if k = 4 ∨ k = 5 then .mk k [R1, R1] else .mk k []
theorem A31 {k : Int} {ks : List Tm} (hk : F8 k) (hn : n = ks.length) (hs : D7 G p n c 9 es) (hr : H4 G ks es) : B7 G (A0a k ks) [.int .i64 k, .string ⟨⟨[]⟩⟩, .int .i64 0, .int .i64 0, .slice none 0 0, .int .i64 0, .slice none 0 0, .int .i64 0, .slice p n c] := by
 subst hn
 simp only [A0a, B7]
 exact ⟨[.int .i64 0, .slice none 0 0], [.int .i64 0, .slice none 0 0], p, c, es, rfl, hk, ⟨by decide, by decide⟩, ⟨by decide, by decide⟩, A1n G, A1n G, hs, hr⟩
theorem A4Q (k : Int) (G : IM) (hk : F8 k) : Fn prog 119 [.int .i64 k] [] G (M3 fun G' v => ∃ cells, v = .agg ⟨cells⟩ ∧ C6 G' (mGk k) cells) := by
 have hB := A2V k R1 R1 G _ _ hk (A06 G) (A06 G)
 refine C4 func119 rfl ntmps119 results119 rfl ?_
 intro w0
 refine A5 ?_
 refine zf1 (fun b3 => ?_)
 refine A7 ?_
 refine zf0 (fun h10 => ?_) (fun h10 => ?_)
 refine I9 ?_
 exact y16
 refine A5 ?_
 refine zf0 (fun h33 => ?_) (fun h33 => ?_)
 refine B8 ?_
 exact y16
 refine E1 ?_
 refine F0 rfl ((A2k _ _)) rfl rfl ?_
 refine B6 ?_
 refine zf9 ?_
 (exact ⟨rfl, _, rfl, by unfold mGk; rw [if_neg zO0]; exact N2 _ hk⟩)
theorem B0R (t : Ty) (G : IM) (cells : List Value) (hr : C6 G t cells) : Fn prog 211 [.agg ⟨cells⟩] [] G (I1 (.bool (U7 t)) G) := by
 refine Fn.forget (post := M3 fun _ v => v = .bool (U7 t)) ?_ (fun _ _ _ h => h.2)
 have hr0 := hr
 obtain ⟨tk, tks⟩ := t
 obtain ⟨p, c, es, rfl, hk, _⟩ := hr.open
 simp only [Ty.k, Ty.ks] at hk hr0 ⊢
 rw [show U7 (.mk tk tks) = (decide (tk ≠ 1) && N1 (.mk tk tks) (mGk tk)) from rfl]
 refine C4 func211 rfl ntmps211 results211 rfl ?_
 intro w0
 refine A5 ?_
 refine zf2 (fun b3 => ?_)
 refine B6 ?_
 refine zf6 ?_
 refine xx2 0 1 ?_
 refine A0r (i := 2) (l' := [tt,tt,tt,ff,ff,ff,ff,ff,ff,ff,ff]) rfl C7 (R7 rfl rfl) rfl zM0 rfl rfl (fun h11 => ?_) (fun h11 => ?_)
 refine xx4 3 4 5 6 ?_
 refine A2 7 ?_
 (refine E6 rfl rfl (A4Q tk G hk) rfl rfl rfl (fun v G1 hle1 hh => ?_); obtain ⟨cg, rfl, hrg⟩ := hh; have hT := A7I (.mk tk tks) (mGk tk) G1 _ _ (hr0.mono hle1) hrg; obtain ⟨pg, cgg, eg, rfl, _⟩ := hrg.open)
 refine A2 8 ?_
 refine M9 rfl rfl (hT) rfl rfl rfl ?_
 refine xx2 9 10 ?_
 refine B6 ?_
 (exact ⟨rfl, by rw [decide_eq_true zO0, Bool.true_and]⟩)
 refine xx8 3 4 5 6 7 8 9 10 ?_
 refine B6 ?_
 (exact ⟨rfl, by rw [decide_eq_false zO0, Bool.false_and]⟩)
theorem A3l (t : Tm) (G : IM) (cells : List Value) (hr : B7 G t cells) : Fn prog 97 [.agg ⟨cells⟩] [] G (I1 (.bool (T8 t)) G) := by
 obtain ⟨k, nm, num, ⟨tk, tks⟩, ⟨fk, fks⟩, lb, ks⟩ := t
 obtain ⟨pt, ct, pf, cf, p, c, es, rfl, hk, hnum, hlb, hty, hfr, hsl, hkl⟩ := hr.open9
 have hd : T8 (.mk k nm num (.mk tk tks) (.mk fk fks) lb ks) = decide (k = 14 ∧ fk = tk ∧ (tk = 4 ∨ tk = 5)) := rfl
 rw [hd]
 refine C4 func97 rfl ntmps97 results97 rfl ?_
 intro w0
 refine A5 ?_
 refine zf2 (fun b3 => ?_)
 refine B8 ?_
 refine zf0 (fun h11 => ?_) (fun h11 => ?_)
 refine B8 ?_
 refine zf0 (fun h19 => ?_) (fun h19 => ?_)
 refine B1 ?_
 refine zf0 (fun h25 => ?_) (fun h25 => ?_)
 refine P3 ?_
 (exact ⟨rfl, by rw [decide_eq_true zO0], rfl⟩)
 refine B6 ?_
 refine zf0 (fun h43 => ?_) (fun h43 => ?_)
 refine B8 ?_
 (exact ⟨rfl, by rw [decide_eq_true zO0], rfl⟩)
 refine B8 ?_
 (exact ⟨rfl, by rw [decide_eq_false zO0], rfl⟩)
 refine A0H ?_
 (exact ⟨rfl, by rw [decide_eq_false zO0], rfl⟩)
 refine A63 ?_
 (exact ⟨rfl, by rw [decide_eq_false zO0], rfl⟩)
theorem A4R (t : Tm) (G : IM) (cells : List Value) (hr : B7 G t cells) : Fn prog 201 [.agg ⟨cells⟩] [] G (I1 (.bool (inj t)) G) := by
 obtain ⟨k, nm, num, ⟨tk, tks⟩, ⟨fk, fks⟩, lb, ks⟩ := t
 obtain ⟨pt, ct, pf, cf, p, c, es, rfl, hk, hnum, hlb, hty, hfr, hsl, hkl⟩ := hr.open9
 have hd : inj (.mk k nm num (.mk tk tks) (.mk fk fks) lb ks) = (decide (k = 14 ∧ tk = 1) && U7 (.mk fk fks)) := rfl
 rw [hd]
 refine C4 func201 rfl ntmps201 results201 rfl ?_
 intro w0
 refine A5 ?_
 refine zf2 (fun b3 => ?_)
 refine B8 ?_
 refine zf0 (fun h11 => ?_) (fun h11 => ?_)
 refine B6 ?_
 refine zf0 (fun h16 => ?_) (fun h16 => ?_)
 refine B6 ?_
 refine F0 rfl ((B0R (.mk fk fks) G _ hfr)) rfl rfl ?_
 refine A7 ?_
 (exact ⟨rfl, by rw [decide_eq_true zO0, Bool.true_and], rfl⟩)
 refine J3 ?_
 (exact ⟨rfl, by rw [decide_eq_false zO0, Bool.false_and], rfl⟩)
 refine L9 ?_
 (exact ⟨rfl, by rw [decide_eq_false zO0, Bool.false_and], rfl⟩)
theorem B0S (t : Tm) (G : IM) (cells : List Value) (hr : B7 G t cells) : Fn prog 122 [.agg ⟨cells⟩] [] G (I1 (.bool (decide (t.k = 2 ∨ t.k = 3 ∨ t.k = 4 ∨ t.k = 5))) G) := by
 obtain ⟨k, nm, num, ⟨tk, tks⟩, ⟨fk, fks⟩, lb, ks⟩ := t
 obtain ⟨pt, ct, pf, cf, p, c, es, rfl, hk, hnum, hlb, hty, hfr, hsl, hkl⟩ := hr.open9
 rw [show (Tm.mk k nm num (.mk tk tks) (.mk fk fks) lb ks).k = k from rfl]
 refine C4 func122 rfl ntmps122 results122 rfl ?_
 intro w0
 refine A5 ?_
 refine zf2 (fun b3 => ?_)
 refine B8 ?_
 refine zf0 (fun h11 => ?_) (fun h11 => ?_)
 refine A1A ?_
 (exact ⟨rfl, by rw [decide_eq_true zO0], rfl⟩)
 refine B5 ?_
 refine zf0 (fun h36 => ?_) (fun h36 => ?_)
 refine L9 ?_
 (exact ⟨rfl, by rw [decide_eq_true zO0], rfl⟩)
 refine B6 ?_
 refine zf0 (fun h58 => ?_) (fun h58 => ?_)
 refine J3 ?_
 (exact ⟨rfl, by rw [decide_eq_true zO0], rfl⟩)
 refine B6 ?_
 refine zf0 (fun h75 => ?_) (fun h75 => ?_)
 refine A7 ?_
 (exact ⟨rfl, by rw [decide_eq_true zO0], rfl⟩)
 refine A7 ?_
 (exact ⟨rfl, by rw [decide_eq_false zO0], rfl⟩)
end Gw
end Go.Proofs.YtmceanphadildaaGreatDoor
