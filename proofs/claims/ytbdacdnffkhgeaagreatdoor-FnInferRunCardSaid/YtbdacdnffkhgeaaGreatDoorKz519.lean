/-
  The program's inference of a term.
-/
import Derived.Test.YtbdacdnffkhgeaaGreatDoorKz514
import Derived.Test.YtbdacdnffkhgeaaGreatDoorKz518
import Derived.Test.YtbdacdnffkhgeaaGreatDoorKz512
import Derived.Test.YtbdacdnffkhgeaaGreatDoorKz513
import Derived.Test.YtbdacdnffkhgeaaGreatDoorKz516
import Derived.Test.YtbdacdnffkhgeaaGreatDoorKz517
set_option linter.unusedVariables false
set_option linter.unusedSimpArgs false
set_option maxHeartbeats 0
set_option maxRecDepth 100000
set_option synthInstance.maxSize 4000
set_option synthInstance.maxHeartbeats 0
namespace Go.Proofs.YtbdacdnffkhgeaaGreatDoor
open Go Go.RowKit
namespace Gw
theorem y126 {p : Prop} (h : p := by
  refine A2 10 ?_
  (refine P0 rfl rfl rfl rfl rfl rfl (fun _ _ => by repeat (first | exact Sw.here | apply Sw.there)) (K4 zI0) rfl zK0 zL0 zR0 rfl rfl zC (fun p5 c5 => ?_))
  (clear hg2; refine A0t (cs := et.flatten ++ [.int .i64 0, .int .i64 (S.c : Int), .slice none 0 0]) zD0 (fun G3 hle3 hsl3 hno3 => ?_); clear hno3; have hle13 := hle12.trans hle3; have hgb3 := W4 hle13 hgb9; have hT := A0H.lam (ih e0 zS0) hI0 hbrk.1 hS hΓ zR0 zR0 zR0 hone hnm1 (hst2.mono hle3) (hre9.mono hle13) hsl3 (hre.mono hle13))
  refine A2 15 ?_
  (refine H1 rfl rfl hT rfl rfl rfl (fun v G4 hle4 hh => ?_); obtain ⟨sc4, tc4, u4, rfl, hs4, hr4, hu4⟩ := hh; have hs40 := hs4; obtain ⟨tp4, tn4, tk4, tq4, tm4, td4, rfl⟩ := hs4.two; have hl4 := hr4.len; have ho4 := hr4.one)
  refine aP 16 rfl (qM rfl) rfl ?_
  refine aP 17 rfl (pX rfl rfl) rfl ?_
  refine aP 18 rfl (pX rfl rfl) rfl ?_
  refine aP 19 rfl (pX rfl rfl) rfl ?_
  refine A2 21 ?_
  refine C9 rfl ?_
  refine A2 22 ?_
  refine P3 rfl rfl rfl rfl hl4 ho4 rfl rfl zF0 zJ0 zC ?_
  refine aP 23 rfl (qA rfl) rfl ?_
  refine Y4 ?_
  refine O7 (_, [.slice tp4 tn4 tk4, .slice tq4 tm4 td4], tc4, G4) (I6 zC0 zV) ⟨hle3.trans hle4, u4, hs40, hr4, hu4⟩
) : p := h
theorem y127 {p : Prop} (h : p := by
  refine A2 15 ?_
  refine C9 rfl ?_
  refine A2 16 ?_
  refine P3 rfl rfl rfl rfl hl4 ho4 rfl rfl zF0 zJ0 zC ?_
  refine aP 17 rfl (qA rfl) rfl ?_
  refine M7 ?_
  refine D3 D4 rfl ?_
  refine J3 (i := 1) (l' := [ff,tt,ff,ff,ff]) rfl C8 (A5 rfl rfl (B3 zI0) hl4) rfl zP0 rfl rfl ?_
  refine aL 0 rfl (A3 rfl rfl) rfl ?_
  refine A2 2 ?_
  refine C9 rfl ?_
  refine A2 3 ?_
  refine P3 rfl rfl rfl rfl hl4 ho4 rfl rfl zF0 zJ0 zC ?_
  refine aP 4 rfl (qA rfl) rfl ?_
  refine E7 ?_
  refine E9 (rC rfl (A3 rfl rfl)) (rC rfl (A3 rfl rfl)) (rT rfl) ?_
  (rw [hosn] at hos; obtain ⟨-, hS1, ho1⟩ := hor.resolve_right (by rintro ⟨_, h, _⟩; rw [hos] at h; cases h); subst hS1 ho1; exact S4.mk u4 rfl hs40 hr4 (fun s h => (by cases h)))
) : p := h
theorem y128 {p : Prop} (h : p := by
  refine A2 15 ?_
  (refine H1 rfl rfl hT rfl rfl rfl (fun v G4 hle4 hh => ?_); obtain ⟨sc4, tc4, u4, rfl, hs4, hr4, hu4⟩ := hh; have hs40 := hs4; obtain ⟨tp4, tn4, tk4, tq4, tm4, td4, rfl⟩ := hs4.two; have hl4 := hr4.len; have ho4 := hr4.one)
  refine aP 16 rfl (qM rfl) rfl ?_
  refine aP 17 rfl (pX rfl rfl) rfl ?_
  refine aP 18 rfl (pX rfl rfl) rfl ?_
  refine aP 19 rfl (pX rfl rfl) rfl ?_
  refine A2 21 ?_
  refine C9 rfl ?_
  refine A2 22 ?_
  refine P3 rfl rfl rfl rfl hl4 ho4 rfl rfl zF0 zJ0 zC ?_
  refine aP 23 rfl (qA rfl) rfl ?_
  refine Y4 ?_
  refine O7 (_, [.slice tp4 tn4 tk4, .slice tq4 tm4 td4], tc4, G4) (I6 zC0 zV) ⟨hle3.trans hle4, u4, hs40, hr4, hu4⟩
) : p := h
theorem y129 {p : Prop} (h : p := by
  refine A2 6 ?_
  (refine P0 rfl rfl rfl rfl rfl rfl (fun _ _ => by repeat (first | exact Sw.here | apply Sw.there)) (K4 zI0) rfl zK0 zL0 zR0 rfl rfl zC (fun p5 c5 => ?_))
  refine aP 7 rfl (C3 rfl) rfl ?_
  refine A2 8 ?_
  refine T7 rfl rfl rfl rfl rfl rfl rfl rfl zM0 zF0 (by rfl) ?_
  refine Y4 ?_
  refine O7 (p5, c5) (I6 zC0 zV) trivial
) : p := h
theorem y130 {p : Prop} (h : p := by
  (have hk00 := hk0 zR0; obtain ⟨b, o, e, rfl, hl, hat, hre, hgb⟩ := hsl.kidTm hkl (i := 0) hk00 hk00; have hK := ih ks[0] (List.getElem_mem _) _ G _ (hvk 0 hk00) (Tm.smallL_mem hks _ (List.getElem_mem _)) hre; rw [← hB1 zR0 hk00] at hK; refine sP (B8 (j := 0) rfl rfl rfl zR0) rfl rfl ?_)
  refine sL (A5 rfl rfl (hat _) hl) rfl rfl ?_
  (refine F4 rfl hK rfl rfl (fun v G3 hle3 hh => ?_); obtain ⟨cells', F', rfl, hs', hnd'⟩ := hh; have hl' := hs'.R.len; have ho' := hs'.R.one)
  refine sS rfl rfl rfl hl' ho' rfl ?_ (hu := by exact C6 hl'.symm)
  refine B5 ?_
  refine P5 (rC rfl (A5 rfl rfl (B3 zI0) hl')) ?_
  exact ⟨rfl, cells', F', rfl, hs', hnd'⟩
) : p := h
theorem y131 {p : Prop} (h : p := by
  refine A2 21 ?_
  refine C9 rfl ?_
  refine A2 22 ?_
  refine P3 rfl rfl rfl rfl hl4 ho4 rfl rfl zF0 zJ0 zC ?_
  refine aP 23 rfl (qA rfl) rfl ?_
  refine Y4 ?_
  refine O7 (_, [.slice tp4 tn4 tk4, .slice tq4 tm4 td4], tc4, G4) (I6 zC0 zV) ⟨hle3.trans hle4, u4, hs40, hr4, hu4⟩
) : p := h
theorem y132 {p : Prop} (h : p := by
  (have hks0 : ks = [] := List.length_eq_zero_iff.1 (by have : E8 k = 0 := (by unfold E8; rw [if_pos zR0]); omega); refine X4 (outs := .blk bx [.slice pa ag.length ca] :: .slc pa ca 40 1 ag.length (ag.map pt) :: H5 M0 E) (rT rfl) (rT rfl) zY ?_)
  (subst hks0; obtain ⟨rfl, rfl⟩ := hI.v0 zR0; rw [decide_eq_true zR0]; exact ⟨M0, E, pa, ca, ag, _, rfl, rfl, hstN, hsub, by omega, fun s hs => ⟨_, rfl, by cases hs; exact hb26⟩⟩)
) : p := h
theorem y133 {p : Prop} (h : p := by
  refine M8 ?_
  (refine J6 zD0 (fun G4 hle4 hsl4 hno4 => ?_); obtain rfl : i = ks.length := zR0)
  refine tT ?_
  refine P5 (rC rfl (A3 rfl rfl)) ?_
  (rw [← hlen, List.take_length] at hst; rw [← hlen] at hsl4 ⊢; obtain ⟨F3, hf1, hf2⟩ := A1V.fin hst hnd hle hle4 hsl4 hno4; rw [hB3]; exact ⟨rfl, _, F3, rfl, hf1.leaf hk hnum hxi, hf2⟩)
) : p := h
theorem y134 {p : Prop} (h : p := by
  refine J0 ?_
  refine X4 (outs := .blk bx [.slice pai agi.length cai] :: .slc pai cai 40 1 agi.length (agi.map pt) :: H5 _ E5) (rT rfl) (rT rfl) zY ?_
  (exact ⟨_, E5, pai, cai, agi, _, rfl, rfl, hstA.uni hV5 (Nat.le_refl _), fun q hq => M5 _ (hsub9 q hq), by rw [E4]; omega, fun s hs => (by cases hs)⟩)
) : p := h
theorem A4t {α : Type} {b : Bool} {x : α} : (if b = true then some x else none).isSome = b := by cases b <;> rfl
theorem A3O : ∀ {ks : List Tm} {i : Nat} (h : i < ks.length), A1q ks → mBr ks[i]
 | t :: ts, 0, _, h => by simp only [A1q] at h; exact h.1
 | t :: ts, i + 1, hi, h => by simp only [A1q] at h; exact A3O (Nat.lt_of_succ_lt_succ hi) h.2
theorem RAs.one {M : VM} {x : SV} {hb : List Nat} (h : RAs M [x] hb) : ∃ a, hb = [a] ∧ K9 M x a := by
 cases h with
 | cons h1 h2 => cases h2; exact ⟨_, rfl, h1⟩
theorem RAs.two {M : VM} {x y : SV} {hb : List Nat} (h : RAs M [x, y] hb) : ∃ a b, hb = [a, b] ∧ K9 M x a ∧ K9 M y b := by
 cases h with
 | cons h1 h2 => obtain ⟨b, rfl, h3⟩ := h2.one; exact ⟨_, _, rfl, h1, h3⟩
theorem RAs.three {M : VM} {x y z : SV} {hb : List Nat} (h : RAs M [x, y, z] hb) : ∃ a b c, hb = [a, b, c] ∧ K9 M x a ∧ K9 M y b ∧ K9 M z c := by
 cases h with
 | cons h1 h2 => obtain ⟨b, c, rfl, h3, h4⟩ := h2.two; exact ⟨_, _, _, rfl, h1, h3, h4⟩
theorem B8C (bx : Nat) : ∀ (e : Tm) (Γ : List (ByteArray × SV)) (S S' : IS) (o : Option SV) (G : IM) (M : VM) (E : Nat → Option Nat) (pa : Option Addr) (ca : Nat) (ag : List Nat) (cells : List Value) (psc : Option Addr),
  V3 Γ e S S' o → mBr e → ag.length + E4 e ≤ 1000000 → B7 G e cells → RSc M G Γ (.pointer psc) → A0O M E S ag →
  Fn Tryz.prog 41 [pt bx, .agg ⟨cells⟩, .pointer psc] (.blk bx [.slice pa ag.length ca] :: .slc pa ca 40 1 ag.length (ag.map pt) :: H5 M E) G (B5d M bx S' o (ag.length + E4 e)) := by
 refine Tm.ind fun k nm num ty fr lb ks ih Γ S S' o G M E pa ca ag cells psc hI hbr hcnt hr hsc hst => ?_
 simp only [mBr] at hbr
 obtain ⟨harr, hk1, hk12, hnm, hbrk⟩ := hbr
 rw [E4] at hcnt
 obtain ⟨tk, tks⟩ := ty
 obtain ⟨fk, fks⟩ := fr
 obtain ⟨pt', ct, pf, cf, q, cq, ek, rfl, hk, hnum, hlb, hty, hfr, hsl, hkl⟩ := hr.open9
 have hn := hsl.le
 have hgs : True := trivial
 have hpf := A30 ks
 refine C0 Tryz.func41 rfl Tryz.ntmps41 Tryz.results41 rfl ?_
 intro w0
 refine A4 ?_
 refine sE (B6 rfl rfl) rfl (fun b3 => ?_)
 refine B0 ?_
 refine sE (B6 rfl rfl) rfl (fun b11 => ?_)
 refine D8 ?_
 refine sE (B6 rfl rfl) rfl (fun b13 => ?_)
 refine E1 ?_
 (clear hgs; refine A2n (b := b13) [_, _, _, _] (.bs true) ?_; simp only [List.cons_append, List.nil_append]; refine A2n (b := b11) [_, _, _] (.bs false) ?_; simp only [List.cons_append, List.nil_append]; have hstN := (hst.node (q := (b13, .bs true)) (fun n h => by cases h)).node (q := (b11, .bs false)) (fun n h => by cases h); have hscN := hsc.mono (M' := (b11, .bs false) :: (b13, .bs true) :: M) (fun q hq => M5 _ (M5 _ hq)) (B9.refl G); have hsub : ∀ q ∈ M, q ∈ ((b11, NC.bs false) :: (b13, NC.bs true) :: M) := (fun q hq => M5 _ (M5 _ hq)); have hb24 : K9 ((b11, .bs false) :: (b13, .bs true) :: M) (.b false) b11 := List.mem_cons_self; have hb26 : K9 ((b11, .bs false) :: (b13, .bs true) :: M) (.b true) b13 := M5 _ List.mem_cons_self; obtain ⟨M0, hM0⟩ : ∃ M0, ((b11, NC.bs false) :: (b13, NC.bs true) :: M) = M0 := ⟨_, rfl⟩; rw [hM0] at hstN hscN hsub hb24 hb26 ⊢)
 refine C1 ?_
 refine C2 (tS (tR (sB (qE rfl rfl) rfl rfl (fun h29 => ?_) (fun h29 => ?_))))
 refine A8 ?_
 refine C2 ?_
 (have hk1' : k = 1 := zR0; obtain ⟨rfl, rfl⟩ := hI.v1 hk1'; refine L8 (fun (x : List (ByteArray × SV) × Option Addr) => ⟨[(2, .pointer x.2), (4, .pointer (some ⟨b3, 0, none⟩))], .blk b3 [.int .i64 k, .string nm, .int .i64 num, .int .i64 tk, .slice pt' tks.length ct, .int .i64 fk, .slice pf fks.length cf, .int .i64 lb, .slice q ks.length cq] :: .blk bx [.slice pa ag.length ca] :: .slc pa ca 40 1 ag.length (ag.map pt) :: H5 M0 E, G⟩) (fun x => RSc M0 G x.1 (.pointer x.2) ∧ A1c x.1 nm = A1c Γ nm) (fun x => x.1.length) (Γ, psc) ?_ ?_ ?_)
 (simp only [I9]; exact F8)
 (exact ⟨hscN, rfl⟩)
 (rintro ⟨Γ1, p1⟩ ⟨hs1, hl1⟩; simp only [] at hs1 hl1 ⊢; rcases Γ1 with _ | ⟨⟨x1, s1⟩, Γ2⟩ <;> first | (obtain ⟨b1, bs1, p2, hp1, hg1, hrs1, hs2⟩ := hs1; cases hp1) | cases hs1)
 refine B5 ?_
 refine sQ (A3x rfl rfl rfl) rfl ?_
 refine V0 ?_
 (have hks0 : ks = [] := List.length_eq_zero_iff.1 (by have : E8 k = 0 := (by unfold E8; rw [if_pos zR0]); omega); refine X4 (outs := .blk bx [.slice pa ag.length ca] :: .slc pa ca 40 1 ag.length (ag.map pt) :: H5 M0 E) (rT rfl) (rT rfl) zY ?_)
 (have hlk : A1c Γ nm = none := (by rw [← hl1]; rfl); rw [hlk]; exact ⟨M0, E, pa, ca, ag, none, rfl, rfl, hstN, hsub, by omega, fun s hs => (by cases hs)⟩)
 refine B5 ?_
 refine sQ (A3x rfl rfl rfl) rfl ?_
 refine A9 ?_
 refine C2 ?_
 refine tS ?_
 refine D3 D4 rfl ?_
 refine J4 (i := 0) (l' := [tt,ff,ff,ff,ff,ff,ff]) rfl C8 (qM rfl) rfl zP0 rfl rfl ?_
 refine aP 1 rfl (K6 rfl) rfl ?_
 refine aP 2 rfl (C3 rfl) rfl ?_
 refine aL 3 rfl (I7 rfl rfl (A54 hg1 rfl)) rfl ?_
 refine aP 4 rfl (C3 rfl) rfl ?_
 refine aL 5 rfl (F0 rfl rfl) rfl ?_
 refine A2B (i := 6) (l' := [tt,tt,tt,tt,tt,tt,tt]) rfl C8 (A2F rfl rfl) rfl zP0 rfl rfl (fun h84 => ?_) (fun h84 => ?_)
 refine A9 ?_
 refine sQ (K6 rfl) rfl ?_
 refine D8 ?_
 refine sL (I7 rfl rfl (A54 hg1 rfl)) rfl rfl ?_
 refine O3 ?_
 (have hks0 : ks = [] := List.length_eq_zero_iff.1 (by have : E8 k = 0 := (by unfold E8; rw [if_pos zR0]); omega); refine X4 (outs := .blk bx [.slice pa ag.length ca] :: .slc pa ca 40 1 ag.length (ag.map pt) :: H5 M0 E) (rT rfl) (rT rfl) zY ?_)
 (have hlk : A1c Γ nm = some s1 := (by rw [← hl1, A1c, if_pos zO0]); rw [hlk]; exact ⟨M0, E, pa, ca, ag, some ⟨bs1, 0, none⟩, rfl, rfl, hstN, hsub, by omega, fun s hs => ⟨bs1, rfl, by cases hs; exact hrs1⟩⟩)
 refine E1 ?_
 refine sQ (K6 rfl) rfl ?_
 refine D8 ?_
 refine sL (I7 rfl rfl (A54 hg1 rfl)) rfl rfl ?_
 refine A4 ?_
 refine J7 (Γ2, p2) ?_ ?_ ?_
 (simp only [I9]; exact F8)
 (exact ⟨hs2, by rw [← hl1, A1c, if_neg zO0]⟩)
 (show Γ2.length < ((x1, s1) :: Γ2).length; simp)
 refine A9 ?_
 refine sB (qE rfl rfl) rfl rfl (fun h131 => ?_) (fun h131 => ?_)
 refine M8 ?_
 (have hks0 : ks = [] := List.length_eq_zero_iff.1 (by have : E8 k = 0 := (by unfold E8; rw [if_pos zR0]); omega); refine X4 (outs := .blk bx [.slice pa ag.length ca] :: .slc pa ca 40 1 ag.length (ag.map pt) :: H5 M0 E) (rT rfl) (rT rfl) zY ?_)
 (subst hks0; obtain ⟨rfl, rfl⟩ := hI.v0 zR0; rw [decide_eq_false zR0]; exact ⟨M0, E, pa, ca, ag, _, rfl, rfl, hstN, hsub, by omega, fun s hs => ⟨_, rfl, by cases hs; exact hb24⟩⟩)
 refine B0 ?_
 refine sB (qE rfl rfl) rfl rfl (fun h155 => ?_) (fun h155 => ?_)
 refine V0 ?_
 exact y132
 refine A8 ?_
 refine sB (qE rfl rfl) rfl rfl (fun h180 => ?_) (fun h180 => ?_)
 refine M8 ?_
 exact y132
 refine A9 ?_
 refine sB (qE rfl rfl) rfl rfl (fun h203 => ?_) (fun h203 => ?_)
 refine B0 ?_
 refine sE (B6 rfl rfl) rfl (fun b211 => ?_)
 (obtain ⟨e0, o0, hks0, hB0, hI0, ho0⟩ := hI.v5 zR0; refine A7G [_, _, _] hstN.nb ?_; simp only [List.cons_append, List.nil_append]; subst hks0 ho0; obtain ⟨bk, ok, ce0, rfl, hl0, hat0, hre0, hgb0⟩ := hsl.kidTm hkl (i := 0) zS0 zS0; replace hre0 : B7 G e0 ce0 := hre0; have hst1 := hstN.var (b := b211) hB0; have hst2 := hst1.arg (s := .v S.c) (b := b211) List.mem_cons_self; have hsc1 := hscN.mono (M' := (b211, .vr S.c) :: M0) M5 (B9.refl G); have hsub1 : ∀ q ∈ M, q ∈ ((b211, NC.vr S.c) :: M0) := (fun q hq => M5 _ (hsub q hq)); have hb58 : K9 ((b211, .vr S.c) :: M0) (.v S.c) b211 := List.mem_cons_self; simp only [A1q] at hbrk; have hlc : H0 [e0] = E4 e0 := (by simp [H0]); rw [hlc] at hcnt; obtain ⟨M1, hM1⟩ : ∃ M1, ((b211, NC.vr S.c) :: M0) = M1 := ⟨_, rfl⟩; rw [hM1] at hst1 hst2 hsc1 hsub1 hb58 ⊢; have hga : True := trivial; refine sQ (qA rfl) rfl ?_)
 refine A9 ?_
 refine sQ (K6 rfl) rfl ?_
 refine C1 ?_
 (refine J8 (D1 rfl rfl rfl zR0 zL0 rfl) rfl ?_; rintro _ ⟨b223, rfl⟩)
 (have hap : ag.map pt ++ [pt b211] = (ag ++ [b211]).map pt := zS0; refine Y0 rfl rfl rfl rfl rfl (fun _ _ => by repeat (first | exact Sw.here | apply Sw.there)) (K4 zI0) rfl zK0 zL0 zR0 rfl (fun p8 c8 => ?_); rw [hap, show ag.length + 1 = (ag ++ [b211]).length from zS0]; obtain ⟨ag1, hag1⟩ : ∃ l, ag ++ [b211] = l := ⟨_, rfl⟩; have hagl : ag1.length = ag.length + 1 := (by rw [← hag1]; simp); rw [hag1] at hst2 ⊢)
 refine sQ (K6 rfl) rfl ?_
 refine A8 ?_
 refine D3 D4 rfl ?_
 refine J4 (i := 0) (l' := [tt,ff,ff,ff,ff,ff,ff,ff,ff,ff,ff,ff,ff,ff,ff,ff,ff]) rfl C8 (qM rfl) rfl zP0 rfl rfl ?_
 refine aP 1 rfl (C3 rfl) rfl ?_
 refine aL 2 rfl (F0 rfl rfl) rfl ?_
 refine aP 3 rfl (B8 (j := 0) rfl rfl rfl zS0) rfl ?_
 refine aL 4 rfl (A5 rfl rfl (hat0 _) hl0) rfl ?_
 refine aP 5 rfl (C3 rfl) rfl ?_
 refine aL 6 rfl (F0 rfl rfl) rfl ?_
 refine aP 7 rfl (qM rfl) rfl ?_
 refine aP 8 rfl (qM rfl) rfl ?_
 refine aP 9 rfl (pBd rfl rfl) rfl ?_
 refine A2 10 ?_
 (refine D2 rfl (B6 rfl rfl) rfl rfl ?_; rintro _ ⟨b243, rfl⟩)
 (clear hga; refine B5g (b := b243) (cs := [.string nm, pt b211, .pointer psc]) (Pk.perm zD0) (fun G2 hle2 hg2 => ?_); have hsc2 : RSc M1 G2 ((nm, .v S.c) :: Γ) (.pointer (some ⟨b243, 0, none⟩)) := ⟨_, _, _, rfl, hg2, hb58, hsc1.mono (fun _ h => h) hle2⟩; have hT := ih e0 zS0 ((nm, .v S.c) :: Γ) ⟨S.B, S.c + 1, S.L ++ [.v S.c]⟩ S' o0 G2 M1 _ p8 c8 ag1 ce0 _ hI0 hbrk.1 zR0 (hre0.mono hle2) hsc2 hst2)
 refine A2 11 ?_
 (refine A22 (l' := [tt,tt,tt,tt,tt,tt,tt,tt,tt,tt,tt,tt,ff,ff,ff,ff,ff]) rfl [_, _] rfl hT rfl rfl rfl rfl (fun v G3 outs hle3 hh => ?_); obtain ⟨M2, E2, pa2, ca2, ag2, pv, rfl, rfl, hst3, hsub3, hlim3, hres⟩ := hh; simp only [List.cons_append, List.nil_append]; clear hT; rcases o0 with _ | s0 <;> first | (have hs0 : True := trivial; obtain ⟨b0, rfl, hrs0⟩ := hres s0 rfl) | skip)
 refine aP 12 rfl (qM rfl) rfl ?_
 refine aP 13 rfl (pX rfl rfl) rfl ?_
 refine aP 14 rfl (pX rfl rfl) rfl ?_
 refine aP 15 rfl (qA rfl) rfl ?_
 refine aP 16 rfl (qA rfl) rfl ?_
 refine B0 ?_
 refine sE (B6 rfl rfl) rfl (fun b259 => ?_)
 refine E1 ?_
 refine X4 (outs := .blk bx [.slice pa2 ag2.length ca2] :: .slc pa2 ca2 40 1 ag2.length (ag2.map pt) :: H5 M2 E2) (rT rfl) (rT rfl) zY ?_
 (exact ⟨M2, E2, pa2, ca2, ag2, _, rfl, rfl, hst3, fun q hq => hsub3 q (hsub1 q hq), by rw [E4, hlc]; omega, fun s hs => (by cases hs)⟩)
 refine aP 12 rfl (qM rfl) rfl ?_
 refine aP 13 rfl (pX rfl rfl) rfl ?_
 refine aP 14 rfl (pX rfl rfl) rfl ?_
 refine aP 15 rfl (qA rfl) rfl ?_
 refine aP 16 rfl (qA rfl) rfl ?_
 refine B0 ?_
 refine sE (B6 rfl rfl) rfl (fun b282 => ?_)
 refine E1 ?_
 refine X4 (outs := .blk bx [.slice pa2 ag2.length ca2] :: .slc pa2 ca2 40 1 ag2.length (ag2.map pt) :: H5 ((b282, .tw false b211 b0) :: M2) E2) (rT rfl) (rT rfl) (by refine A0.cons zD0 ?_; refine A0.cons zD0 ?_; refine A0.cons Pk.here ?_; repeat (first | exact A0.refl | apply A0.drop)) ?_
 (exact ⟨_, E2, pa2, ca2, ag2, _, rfl, rfl, hst3.node (fun n h => by cases h), fun q hq => M5 _ (hsub3 q (hsub1 q hq)), by rw [E4, hlc]; omega, fun s hs => ⟨_, rfl, by cases hs; exact ⟨_, _, List.mem_cons_self, (hb58.mono hsub3).mono M5, hrs0.mono M5⟩⟩⟩)
 refine Z0 ?_
 refine C2 ?_
 (have hkn1 : k ≠ 1 := zR0; have hkn5 : k ≠ 5 := zR0; obtain ⟨S1, os, hIL, hor⟩ := hI.vn hkn1 hkn5; have hgn : True := trivial; refine X1 40 1 ?_; refine L8 (fun (x : Nat × VM × (Nat → Option Nat) × Option Addr × Nat × List Nat × Option Addr × Nat × List Nat × IM) => ⟨[(92, .int .i64 x.1), (91, .int .i64 (ks.length : Int)), (90, .slice q ks.length cq), (13, .slice x.2.2.2.2.2.2.1 x.2.2.2.2.2.2.2.2.1.length x.2.2.2.2.2.2.2.1), (9, pt b13), (8, pt b11), (4, .pointer (some ⟨b3, 0, none⟩)), (2, .pointer psc), (0, pt bx)], .slc x.2.2.2.2.2.2.1 x.2.2.2.2.2.2.2.1 40 1 x.2.2.2.2.2.2.2.2.1.length (x.2.2.2.2.2.2.2.2.1.map pt) :: .blk b3 [.int .i64 k, .string nm, .int .i64 num, .int .i64 tk, .slice pt' tks.length ct, .int .i64 fk, .slice pf fks.length cf, .int .i64 lb, .slice q ks.length cq] :: .blk bx [.slice x.2.2.2.1 x.2.2.2.2.2.1.length x.2.2.2.2.1] :: .slc x.2.2.2.1 x.2.2.2.2.1 40 1 x.2.2.2.2.2.1.length (x.2.2.2.2.2.1.map pt) :: H5 x.2.1 x.2.2.1, x.2.2.2.2.2.2.2.2.2⟩) (fun x => x.1 ≤ ks.length ∧ B9 G x.2.2.2.2.2.2.2.2.2 ∧ (∀ q ∈ M0, q ∈ x.2.1) ∧ x.2.2.2.2.2.1.length ≤ ag.length + H0 (ks.take x.1) ∧ x.2.2.2.2.2.2.2.2.1.length = x.1 ∧ ∃ Si os' ss, A0O x.2.1 x.2.2.1 Si x.2.2.2.2.2.1 ∧ RAs x.2.1 ss x.2.2.2.2.2.2.2.2.1 ∧ A0W Γ (ks.drop x.1) Si S1 os' ∧ os = os'.map (ss ++ ·)) (fun x => ks.length - x.1) (0, M0, E, pa, ca, ag, none, 0, [], G) ?_ ?_ ?_)
 (simp only [I9]; exact F8)
 (exact ⟨Nat.zero_le _, B9.refl _, fun q h => h, by simp [H0], rfl, S, os, [], hstN, .nil, hIL, by cases os <;> rfl⟩)
 (rintro ⟨(i : Nat), Mi, Ei, pai, cai, agi, ph, ch, hb, Gi⟩ ⟨hi, hle, hsubi, hagi, hhb, Si, os', ss, hsti, hra, hILi, hos⟩; simp only [] at hi hle hsubi hagi hhb hsti hra hILi hos ⊢)
 refine A4 ?_
 refine sB (N5 rfl rfl) rfl rfl (fun h321 => ?_) (fun h321 => ?_)
 refine B0 ?_
 refine C2 ?_
 refine A4 ?_
 (have hil : i < ks.length := zR0; obtain ⟨bk, ok, e9, rfl, hl9, hat9, hre9, hgb9⟩ := (hsl.mono hle).kidTm (hkl.mono hle) (i := i) hil hil; have ho9 := hre9.one; have hsc9 := hscN.mono hsubi hle; have hct := A1A (ks := ks) (i := i) hil; have hctk := A1z (ks := ks) (i := i) hil; refine sP (B8 (j := i) rfl rfl rfl hil) rfl rfl ?_)
 refine sL (A5 rfl rfl (hat9 _) hl9) rfl rfl ?_
 refine sE (A6 rfl) rfl (fun b334 => ?_)
 refine sS rfl rfl rfl hl9 ho9 rfl ?_ (hu := by exact C6 hl9.symm)
 refine A8 ?_
 refine sL (A5 rfl rfl (B3 zI0) hl9) rfl rfl ?_
 refine D8 ?_
 (rcases hILi.hd hil with ⟨hIf, hosn⟩ | ⟨S2, s2, os2, hIf, hIL2, hos2⟩ <;> (have hT := ih ks[i] (List.getElem_mem hil) Γ Si _ _ Gi Mi Ei pai cai agi e9 psc hIf (A3O hil hbrk) zR0 hre9 hsc9 hsti; refine R0 [_, _, _] rfl hT rfl rfl rfl (fun v G3 outs hle3 hh => ?_); obtain ⟨M2, E2, pa2, ca2, ag2, pv, rfl, rfl, hst3, hsub3, hlim3, hres⟩ := hh; simp only [List.cons_append, List.nil_append]; clear hT) <;> first | (obtain ⟨b0, rfl, hrs0⟩ := hres _ rfl) | skip)
 refine A3V ?_
 refine X4 (outs := .blk bx [.slice pa2 ag2.length ca2] :: .slc pa2 ca2 40 1 ag2.length (ag2.map pt) :: H5 M2 E2) (rT rfl) (rT rfl) zY ?_
 (rw [hosn] at hos; obtain ⟨-, hS1, ho1⟩ := hor.resolve_right (by rintro ⟨_, h, _⟩; rw [hos] at h; cases h); subst hS1 ho1; exact ⟨M2, E2, pa2, ca2, ag2, none, rfl, rfl, hst3, fun q hq => hsub3 q (hsubi q (hsub q hq)), by rw [E4]; omega, fun s hs => (by cases hs)⟩)
 refine X3 ?_
 (refine J8 (D1 rfl rfl rfl zR0 zL0 rfl) rfl ?_; rintro _ ⟨b394, rfl⟩)
 (have hap : hb.map pt ++ [pt b0] = (hb ++ [b0]).map pt := zS0; refine Y0 rfl rfl rfl rfl rfl (fun _ _ => by repeat (first | exact Sw.here | apply Sw.there)) (K4 zI0) rfl zK0 zL0 zR0 rfl (fun pn' cn' => ?_))
 refine A8 ?_
 refine sP (K0 rfl rfl zR0 zR0) rfl rfl ?_
 refine A4 ?_
 (refine J7 (i + 1, M2, E2, pa2, ca2, ag2, pn', cn', hb ++ [b0], G3) (by rw [← hap]; simp only [List.length_append, List.length_cons, List.length_nil]; exact (I6 zC0 zV)) ?_ ?_)
 (dsimp only; exact ⟨by omega, hle.trans hle3, fun q hq => hsub3 q (hsubi q hq), by omega, by simp [hhb], S2, os2, ss ++ [s2], hst3, (hra.mono hsub3).snoc hrs0, hIL2, by rw [hos, hos2]; cases os2 <;> simp⟩)
 (show ks.length - (i + 1) < ks.length - i; omega)
 refine O3 ?_
 (clear hgn; obtain rfl : i = ks.length := zR0; rw [List.take_length] at hagi; obtain ⟨hS1, hos1⟩ := hILi.fin; subst hS1; rw [hos1] at hos; replace hos : os = some ss := (by rw [hos]; simp); obtain ⟨ss', hss', hNod⟩ := hor.resolve_left (by rintro ⟨h, _⟩; rw [hos] at h; cases h); rw [hos] at hss'; cases hss'; refine X9 (cs := hb.map pt) zD0 (fun G4 hle4 hsl4 hno4 => ?_); clear hno4 hILi hIL hor; have hgv : True := trivial; have hgw : True := trivial; have hgz : True := trivial; have hsub9 : ∀ q ∈ M, q ∈ Mi := (fun q hq => hsubi q (hsub q hq)); rcases hNod with _ | h34 | _ | ⟨hB, hu⟩ | ⟨h78, hu⟩ | ⟨h78, hu, hu2⟩ | hu | ⟨hu, hu2⟩ | ⟨hk1112, hB, hB2, hu⟩ <;> first | (exfalso; omega) | (obtain ⟨p0, p1, p2, rfl, hp0, hp1, hp2⟩ := hra.three; obtain ⟨bH, oH, rfl, hgH, hatH⟩ := hsl4.at1 zS0) | (obtain ⟨p0, p1, rfl, hp0, hp1⟩ := hra.two; obtain ⟨bH, oH, rfl, hgH, hatH⟩ := hsl4.at1 zS0) | (obtain ⟨p0, rfl, hp0⟩ := hra.one; obtain ⟨bH, oH, rfl, hgH, hatH⟩ := hsl4.at1 zS0))
 refine B5 ?_
 refine C2 ?_
 refine A4 ?_
 refine sP (D0 rfl rfl zR0) rfl rfl ?_
 refine B0 ?_
 refine sP (D0 rfl rfl zR0) rfl rfl ?_
 refine A8 ?_
 refine sP (D0 rfl rfl zR0) rfl rfl ?_
 refine A9 ?_
 refine sP (D0 rfl rfl zR0) rfl rfl ?_
 refine A9 ?_
 refine sP (O1 rfl rfl zR0) rfl rfl ?_
 refine A8 ?_
 refine D3 D4 rfl ?_
 refine J4 (i := 0) (l' := [tt,ff,ff,ff,ff,ff,ff,ff,ff,ff]) rfl C8 (qM rfl) rfl zP0 rfl rfl ?_
 refine aP 1 rfl (B8 (j := 0) rfl rfl rfl zS0) rfl ?_
 refine aL 2 rfl (I7 rfl rfl (hatH _ 0 _ rfl)) rfl ?_
 refine aP 3 rfl (qM rfl) rfl ?_
 refine aP 4 rfl (B8 (j := 1) rfl rfl rfl zS0) rfl ?_
 refine aL 5 rfl (I7 rfl rfl (hatH _ 1 _ rfl)) rfl ?_
 refine aP 6 rfl (pBd rfl rfl) rfl ?_
 refine A2 7 ?_
 (refine D2 rfl (B6 rfl rfl) rfl rfl ?_; rintro _ ⟨b470, rfl⟩)
 refine aP 8 rfl (qA rfl) rfl ?_
 refine aP 9 rfl (qA rfl) rfl ?_
 refine A8 ?_
 refine X4 (outs := .blk bx [.slice pai agi.length cai] :: .slc pai cai 40 1 agi.length (agi.map pt) :: H5 ((b470, .tw true p0 p1) :: Mi) Ei) (rT rfl) (rT rfl) (by refine A0.cons zD0 ?_; refine A0.cons zD0 ?_; refine A0.cons Pk.here ?_; repeat (first | exact A0.refl | apply A0.drop)) ?_
 (exact ⟨_, Ei, pai, cai, agi, _, rfl, rfl, hsti.node (fun n h => by cases h), fun q hq => M5 _ (hsub9 q hq), by rw [E4]; omega, fun s hs => ⟨_, rfl, by cases hs; exact ⟨p0, p1, List.mem_cons_self, hp0.mono M5, hp1.mono M5⟩⟩⟩)
 refine B5 ?_
 refine C2 ?_
 refine A4 ?_
 refine sP (O1 rfl rfl zR0) rfl rfl ?_
 refine B0 ?_
 refine sE (B6 rfl rfl) rfl (fun b495 => ?_)
 refine B5 ?_
 refine D3 D4 rfl ?_
 (clear hgv; refine B5e (b := b495) [_, _, _] hsti.nb ?_; simp only [List.cons_append, List.nil_append]; have hst4 := hsti.var (b := b495) hB; have hbv : K9 ((b495, .vr S1.c) :: Mi) (.v S1.c) b495 := List.mem_cons_self)
 refine J4 (i := 0) (l' := [tt,ff,ff,ff,ff,ff,ff,ff,ff,ff,ff,ff,ff]) rfl C8 (qM rfl) rfl zP0 rfl rfl ?_
 refine aP 1 rfl (qM rfl) rfl ?_
 refine aP 2 rfl (B8 (j := 0) rfl rfl rfl zS0) rfl ?_
 refine aL 3 rfl (I7 rfl rfl (hatH _ 0 _ rfl)) rfl ?_
 refine aP 4 rfl (qM rfl) rfl ?_
 refine aP 5 rfl (B8 (j := 1) rfl rfl rfl zS0) rfl ?_
 refine aL 6 rfl (I7 rfl rfl (hatH _ 1 _ rfl)) rfl ?_
 refine aP 7 rfl (qM rfl) rfl ?_
 refine aP 8 rfl (pBd rfl rfl) rfl ?_
 refine A2 9 ?_
 (refine D2 rfl (B6 rfl rfl) rfl rfl ?_; rintro _ ⟨b512, rfl⟩)
 (clear hgw; refine B5f (b := b512) [_, _, _] (.tw false p1 b495) ?_; simp only [List.cons_append, List.nil_append]; have hst5 := hst4.node (q := (b512, .tw false p1 b495)) (fun n h => by cases h); have hU := A1M hu _ _ p0 b512 G4 hst5.v hst5.n1 ((hp0.mono M5).mono M5) ⟨p1, b495, List.mem_cons_self, (hp1.mono M5).mono M5, hbv.mono M5⟩)
 refine A2 10 ?_
 (refine A22 (l' := [tt,tt,tt,tt,tt,tt,tt,tt,tt,tt,tt,ff,ff]) rfl [_, _, _] rfl hU rfl rfl rfl rfl (fun v G5 outs hle5 hh => ?_); obtain ⟨hG, rfl, E5, rfl, hV5⟩ := hh; replace hG := hG.symm; subst hG; simp only [List.cons_append, List.nil_append])
 refine aP 11 rfl (qA rfl) rfl ?_
 refine aP 12 rfl (qA rfl) rfl ?_
 refine A8 ?_
 refine X4 (outs := .blk bx [.slice pai agi.length cai] :: .slc pai cai 40 1 agi.length (agi.map pt) :: H5 _ E5) (rT rfl) (rT rfl) zY ?_
 (exact ⟨_, E5, pai, cai, agi, _, rfl, by rw [A4t], hst5.uni hV5 zS0, fun q hq => M5 _ (M5 _ (hsub9 q hq)), by rw [E4]; omega, fun s hs => (by split at hs <;> cases hs; exact ⟨_, rfl, hbv.mono M5⟩)⟩)
 refine B5 ?_
 refine C2 ?_
 refine A4 ?_
 refine sP (D0 rfl rfl zR0) rfl rfl ?_
 refine B0 ?_
 refine sB (qE rfl rfl) rfl rfl (fun h540 => ?_) (fun h540 => ?_)
 refine Z8 ?_
 refine sP (D0 rfl rfl zR0) rfl rfl ?_
 refine E7 ?_
 refine sP (B8 (j := 0) rfl rfl rfl zS0) rfl rfl ?_
 refine sL (I7 rfl rfl (hatH _ 0 _ rfl)) rfl rfl ?_
 refine D8 ?_
 refine sE (B6 rfl rfl) rfl (fun b572 => ?_)
 (refine A2n (b := b572) [_, _, _] (.bs false) ?_; simp only [List.cons_append, List.nil_append]; have hstA := hsti.node (q := (b572, .bs false)) (fun n h => by cases h); refine R0 [_, _, _] rfl (A1M hu _ _ p0 b572 G4 hstA.v hstA.n1 (hp0.mono M5) List.mem_cons_self) rfl rfl rfl (fun v G5 outs hle5 hh => ?_); obtain ⟨hG, rfl, E5, rfl, hV5⟩ := hh; replace hG := hG.symm; subst hG; simp only [List.cons_append, List.nil_append])
 exact y134
 refine A8 ?_
 refine sP (O1 rfl rfl zR0) rfl rfl ?_
 refine J0 ?_
 refine sP (O1 rfl rfl zR0) rfl rfl ?_
 refine O3 ?_
 refine sP (B8 (j := 0) rfl rfl rfl zS0) rfl rfl ?_
 refine sL (I7 rfl rfl (hatH _ 0 _ rfl)) rfl rfl ?_
 refine D8 ?_
 refine sE (B6 rfl rfl) rfl (fun b628 => ?_)
 (refine A2n (b := b628) [_, _, _] (.bs false) ?_; simp only [List.cons_append, List.nil_append]; have hstA := hsti.node (q := (b628, .bs false)) (fun n h => by cases h); refine R0 [_, _, _] rfl (A1M hu _ _ p0 b628 G4 hstA.v hstA.n1 (hp0.mono M5) List.mem_cons_self) rfl rfl rfl (fun v G5 outs hle5 hh => ?_); obtain ⟨hG, rfl, E5, rfl, hV5⟩ := hh; replace hG := hG.symm; subst hG; simp only [List.cons_append, List.nil_append])
 exact y134
 refine B5 ?_
 refine C2 ?_
 refine A4 ?_
 refine sP (D0 rfl rfl zR0) rfl rfl ?_
 refine B0 ?_
 refine sB (qE rfl rfl) rfl rfl (fun h662 => ?_) (fun h662 => ?_)
 refine Z8 ?_
 refine sP (D0 rfl rfl zR0) rfl rfl ?_
 refine E7 ?_
 refine sP (B8 (j := 0) rfl rfl rfl zS0) rfl rfl ?_
 refine sL (I7 rfl rfl (hatH _ 0 _ rfl)) rfl rfl ?_
 refine D8 ?_
 refine sE (B6 rfl rfl) rfl (fun b694 => ?_)
 (refine A2n (b := b694) [_, _, _] (.bs false) ?_; simp only [List.cons_append, List.nil_append]; have hstA := hsti.node (q := (b694, .bs false)) (fun n h => by cases h); refine R0 [_, _, _] rfl (A1M hu _ _ p0 b694 G4 hstA.v hstA.n1 (hp0.mono M5) List.mem_cons_self) rfl rfl rfl (fun v G5 outs hle5 hh => ?_); obtain ⟨hG, rfl, E5, rfl, hV5⟩ := hh; replace hG := hG.symm; subst hG; simp only [List.cons_append, List.nil_append])
 refine A4 ?_
 refine sP (B8 (j := 1) rfl rfl rfl zS0) rfl rfl ?_
 refine sL (I7 rfl rfl (hatH _ 1 _ rfl)) rfl rfl ?_
 refine D8 ?_
 refine sE (B6 rfl rfl) rfl (fun b701 => ?_)
 (refine A2n (b := b701) [_, _, _] (.bs false) ?_; simp only [List.cons_append, List.nil_append]; have hstB := (hstA.uni hV5 (Nat.le_refl _)).node (q := (b701, .bs false)) (fun n h => by cases h); refine R0 [_, _, _] rfl (A1M hu2 _ _ p1 b701 _ hstB.v hstB.n1 ((hp1.mono M5).mono M5) List.mem_cons_self) rfl rfl rfl (fun v G6 outs hle6 hh => ?_); obtain ⟨hG, rfl, E6, rfl, hV6⟩ := hh; replace hG := hG.symm; subst hG; simp only [List.cons_append, List.nil_append])
 refine E1 ?_
 refine X4 (outs := .blk bx [.slice pai agi.length cai] :: .slc pai cai 40 1 agi.length (agi.map pt) :: H5 _ E6) (rT rfl) (rT rfl) zY ?_
 (have hd8 : decide (k = 8) = false := decide_eq_false zR0; rw [hd8]; exact ⟨_, E6, pai, cai, agi, _, rfl, by rw [A4t], hstB.uni hV6 (Nat.le_refl _), fun q hq => M5 _ (M5 _ (hsub9 q hq)), by rw [E4]; omega, fun s hs => (by split at hs <;> cases hs; exact ⟨_, rfl, ((hb24.mono hsubi).mono M5).mono M5⟩)⟩)
 refine A8 ?_
 refine sP (O1 rfl rfl zR0) rfl rfl ?_
 refine J0 ?_
 refine sP (O1 rfl rfl zR0) rfl rfl ?_
 refine O3 ?_
 refine sP (B8 (j := 0) rfl rfl rfl zS0) rfl rfl ?_
 refine sL (I7 rfl rfl (hatH _ 0 _ rfl)) rfl rfl ?_
 refine D8 ?_
 refine sE (B6 rfl rfl) rfl (fun b750 => ?_)
 (refine A2n (b := b750) [_, _, _] (.bs false) ?_; simp only [List.cons_append, List.nil_append]; have hstA := hsti.node (q := (b750, .bs false)) (fun n h => by cases h); refine R0 [_, _, _] rfl (A1M hu _ _ p0 b750 G4 hstA.v hstA.n1 (hp0.mono M5) List.mem_cons_self) rfl rfl rfl (fun v G5 outs hle5 hh => ?_); obtain ⟨hG, rfl, E5, rfl, hV5⟩ := hh; replace hG := hG.symm; subst hG; simp only [List.cons_append, List.nil_append])
 refine A4 ?_
 refine sP (B8 (j := 1) rfl rfl rfl zS0) rfl rfl ?_
 refine sL (I7 rfl rfl (hatH _ 1 _ rfl)) rfl rfl ?_
 refine D8 ?_
 refine sE (B6 rfl rfl) rfl (fun b757 => ?_)
 (refine A2n (b := b757) [_, _, _] (.bs false) ?_; simp only [List.cons_append, List.nil_append]; have hstB := (hstA.uni hV5 (Nat.le_refl _)).node (q := (b757, .bs false)) (fun n h => by cases h); refine R0 [_, _, _] rfl (A1M hu2 _ _ p1 b757 _ hstB.v hstB.n1 ((hp1.mono M5).mono M5) List.mem_cons_self) rfl rfl rfl (fun v G6 outs hle6 hh => ?_); obtain ⟨hG, rfl, E6, rfl, hV6⟩ := hh; replace hG := hG.symm; subst hG; simp only [List.cons_append, List.nil_append])
 refine E1 ?_
 refine X4 (outs := .blk bx [.slice pai agi.length cai] :: .slc pai cai 40 1 agi.length (agi.map pt) :: H5 _ E6) (rT rfl) (rT rfl) zY ?_
 (have hd8 : decide (k = 8) = true := decide_eq_true zR0; rw [hd8]; exact ⟨_, E6, pai, cai, agi, _, rfl, by rw [A4t], hstB.uni hV6 (Nat.le_refl _), fun q hq => M5 _ (M5 _ (hsub9 q hq)), by rw [E4]; omega, fun s hs => (by split at hs <;> cases hs; exact ⟨_, rfl, ((hb26.mono hsubi).mono M5).mono M5⟩)⟩)
 refine B5 ?_
 refine C2 ?_
 refine A4 ?_
 refine sP (D0 rfl rfl zR0) rfl rfl ?_
 refine B0 ?_
 refine sP (D0 rfl rfl zR0) rfl rfl ?_
 refine A8 ?_
 refine sP (D0 rfl rfl zR0) rfl rfl ?_
 refine A9 ?_
 refine sP (O1 rfl rfl zR0) rfl rfl ?_
 refine A8 ?_
 refine D3 D4 rfl ?_
 refine J4 (i := 0) (l' := [tt,ff,ff,ff,ff,ff,ff,ff,ff,ff,ff,ff,ff,ff,ff,ff,ff,ff,ff]) rfl C8 (qM rfl) rfl zP0 rfl rfl ?_
 refine aP 1 rfl (B8 (j := 1) rfl rfl rfl zS0) rfl ?_
 refine aL 2 rfl (I7 rfl rfl (hatH _ 1 _ rfl)) rfl ?_
 refine aP 3 rfl (qM rfl) rfl ?_
 refine aP 4 rfl (B8 (j := 0) rfl rfl rfl zS0) rfl ?_
 refine aL 5 rfl (I7 rfl rfl (hatH _ 0 _ rfl)) rfl ?_
 refine aP 6 rfl (qM rfl) rfl ?_
 refine A2 7 ?_
 (refine A22 (l' := [tt,tt,tt,tt,tt,tt,tt,tt,ff,ff,ff,ff,ff,ff,ff,ff,ff,ff,ff]) rfl [_, _, _] rfl (A1M hu Mi Ei p0 _ G4 hsti.v hsti.n1 hp0 (hb26.mono hsubi)) rfl rfl rfl rfl (fun v G5 outs hle5 hh => ?_); obtain ⟨hG, rfl, E5, rfl, hV5⟩ := hh; replace hG := hG.symm; subst hG; simp only [List.cons_append, List.nil_append])
 refine aP 8 rfl (qM rfl) rfl ?_
 refine D6 9 rfl rfl rfl ?_
 refine D6 10 rfl rfl rfl ?_
 refine D6 11 rfl rfl rfl ?_
 refine D6 12 rfl rfl rfl ?_
 refine D6 13 rfl rfl rfl ?_
 refine D6 14 rfl rfl rfl ?_
 refine D6 15 rfl rfl rfl ?_
 refine aP 16 rfl (T6 rfl rfl) rfl ?_
 refine aP 17 rfl (qA rfl) rfl ?_
 refine aP 18 rfl (qA rfl) rfl ?_
 refine A8 ?_
 refine X4 (outs := .blk bx [.slice pai agi.length cai] :: .slc pai cai 40 1 agi.length (agi.map pt) :: H5 _ E5) (rT rfl) (rT rfl) zY ?_
 (exact ⟨_, E5, pai, cai, agi, _, rfl, rfl, hsti.uni hV5 (Nat.le_refl _), fun q hq => hsub9 q hq, by rw [E4]; omega, fun s hs => (by cases hs)⟩)
 refine B5 ?_
 refine C2 ?_
 refine A4 ?_
 refine sP (D0 rfl rfl zR0) rfl rfl ?_
 refine B0 ?_
 refine sP (D0 rfl rfl zR0) rfl rfl ?_
 refine A8 ?_
 refine sP (D0 rfl rfl zR0) rfl rfl ?_
 refine A9 ?_
 refine sP (O1 rfl rfl zR0) rfl rfl ?_
 refine A8 ?_
 refine D3 D4 rfl ?_
 refine J4 (i := 0) (l' := [tt,ff,ff,ff,ff,ff,ff,ff,ff,ff,ff,ff,ff,ff,ff,ff,ff,ff,ff]) rfl C8 (qM rfl) rfl zP0 rfl rfl ?_
 refine aP 1 rfl (B8 (j := 1) rfl rfl rfl zS0) rfl ?_
 refine aL 2 rfl (I7 rfl rfl (hatH _ 1 _ rfl)) rfl ?_
 refine aP 3 rfl (qM rfl) rfl ?_
 refine aP 4 rfl (B8 (j := 0) rfl rfl rfl zS0) rfl ?_
 refine aL 5 rfl (I7 rfl rfl (hatH _ 0 _ rfl)) rfl ?_
 refine aP 6 rfl (qM rfl) rfl ?_
 refine A2 7 ?_
 (refine A22 (l' := [tt,tt,tt,tt,tt,tt,tt,tt,ff,ff,ff,ff,ff,ff,ff,ff,ff,ff,ff]) rfl [_, _, _] rfl (A1M hu Mi Ei p0 _ G4 hsti.v hsti.n1 hp0 (hb26.mono hsubi)) rfl rfl rfl rfl (fun v G5 outs hle5 hh => ?_); obtain ⟨hG, rfl, E5, rfl, hV5⟩ := hh; replace hG := hG.symm; subst hG; simp only [List.cons_append, List.nil_append])
 refine aP 8 rfl (qM rfl) rfl ?_
 refine aP 9 rfl (qM rfl) rfl ?_
 refine aP 10 rfl (B8 (j := 1) rfl rfl rfl zS0) rfl ?_
 refine aL 11 rfl (I7 rfl rfl (hatH _ 1 _ rfl)) rfl ?_
 refine aP 12 rfl (qM rfl) rfl ?_
 refine aP 13 rfl (B8 (j := 2) rfl rfl rfl zS0) rfl ?_
 refine aL 14 rfl (I7 rfl rfl (hatH _ 2 _ rfl)) rfl ?_
 refine A2 15 ?_
 (refine A22 (l' := [tt,tt,tt,tt,tt,tt,tt,tt,tt,tt,tt,tt,tt,tt,tt,tt,ff,ff,ff]) rfl [_, _, _] rfl (A1M hu2 Mi E5 p1 p2 _ hV5 hsti.n1 hp1 hp2) rfl rfl rfl rfl (fun v G6 outs hle6 hh => ?_); obtain ⟨hG, rfl, E6, rfl, hV6⟩ := hh; replace hG := hG.symm; subst hG; simp only [List.cons_append, List.nil_append])
 refine aP 16 rfl (R8 rfl rfl) rfl ?_
 refine aP 17 rfl (qA rfl) rfl ?_
 refine aP 18 rfl (qA rfl) rfl ?_
 refine A8 ?_
 refine X4 (outs := .blk bx [.slice pai agi.length cai] :: .slc pai cai 40 1 agi.length (agi.map pt) :: H5 _ E6) (rT rfl) (rT rfl) zY ?_
 (exact ⟨_, E6, pai, cai, agi, _, rfl, by rw [A4t], hsti.uni hV6 (Nat.le_refl _), fun q hq => hsub9 q hq, by rw [E4]; omega, fun s hs => (by split at hs <;> cases hs; exact ⟨_, rfl, hp1⟩)⟩)
 refine B5 ?_
 refine C2 ?_
 refine A4 ?_
 refine sP (D0 rfl rfl zR0) rfl rfl ?_
 refine B0 ?_
 refine sP (D0 rfl rfl zR0) rfl rfl ?_
 refine A8 ?_
 refine sP (D0 rfl rfl zR0) rfl rfl ?_
 refine A9 ?_
 refine sP (D0 rfl rfl zR0) rfl rfl ?_
 refine A9 ?_
 refine sP (D0 rfl rfl zR0) rfl rfl ?_
 refine J2 ?_
 refine sE (B6 rfl rfl) rfl (fun b940 => ?_)
 refine D8 ?_
 refine sE (B6 rfl rfl) rfl (fun b942 => ?_)
 (have hst4 := hsti.var (b := b940) hB; have hst5 := hst4.var (b := b942) hB2; refine A3U (Pk.perm (e := .blk b940 [.int .i64 0, .pointer none, .pointer none, .pointer none]) zD0) ?_; simp only [List.cons_append, List.nil_append]; refine A7G (b := b940) [_, _, _, _] hsti.nb ?_; simp only [List.cons_append, List.nil_append]; refine A7G (b := b942) [_, _, _] hst4.nb ?_; simp only [List.cons_append, List.nil_append]; have hbv : K9 ((b942, .vr (S1.c + 1)) :: (b940, .vr S1.c) :: Mi) (.v S1.c) b940 := M5 _ List.mem_cons_self; have hbw : K9 ((b942, .vr (S1.c + 1)) :: (b940, .vr S1.c) :: Mi) (.v (S1.c + 1)) b942 := List.mem_cons_self; refine sQ (qA rfl) rfl ?_)
 refine M8 ?_
 refine sB (qE rfl rfl) rfl rfl (fun h958 => ?_) (fun h958 => ?_)
 refine O3 ?_
 refine sP (B8 (j := 0) rfl rfl rfl zS0) rfl rfl ?_
 refine sL (I7 rfl rfl (hatH _ 0 _ rfl)) rfl rfl ?_
 refine C1 ?_
 refine sE (B6 rfl rfl) rfl (fun b976 => ?_)
 (refine A2n (b := b976) [_, _, _] (.tw true b940 b942) ?_; simp only [List.cons_append, List.nil_append]; have hstA := hst5.node (q := (b976, .tw true b940 b942)) (fun n h => by cases h); refine R0 [_, _, _] rfl (A1M hu _ _ p0 b976 G4 hstA.v hstA.n1 (((hp0.mono M5).mono M5).mono M5) ⟨_, _, List.mem_cons_self, hbv.mono M5, hbw.mono M5⟩) rfl rfl rfl (fun v G5 outs hle5 hh => ?_); obtain ⟨hG, rfl, E5, rfl, hV5⟩ := hh; replace hG := hG.symm; subst hG; simp only [List.cons_append, List.nil_append])
 refine A8 ?_
 refine X4 (outs := .blk bx [.slice pai agi.length cai] :: .slc pai cai 40 1 agi.length (agi.map pt) :: H5 _ E5) (rT rfl) (rT rfl) zY ?_
 (rw [if_pos (show k = 12 by omega)]; exact ⟨_, E5, pai, cai, agi, _, rfl, by rw [A4t], hstA.uni hV5 (Nat.le_refl _), fun q hq => M5 _ (M5 _ (M5 _ (hsub9 q hq))), by rw [E4]; omega, fun s hs => (by split at hs <;> cases hs; exact ⟨_, rfl, hbw.mono M5⟩)⟩)
 refine E7 ?_
 refine sP (B8 (j := 0) rfl rfl rfl zS0) rfl rfl ?_
 refine sL (I7 rfl rfl (hatH _ 0 _ rfl)) rfl rfl ?_
 refine C1 ?_
 refine sE (B6 rfl rfl) rfl (fun b999 => ?_)
 (refine A2n (b := b999) [_, _, _] (.tw true b940 b942) ?_; simp only [List.cons_append, List.nil_append]; have hstA := hst5.node (q := (b999, .tw true b940 b942)) (fun n h => by cases h); refine R0 [_, _, _] rfl (A1M hu _ _ p0 b999 G4 hstA.v hstA.n1 (((hp0.mono M5).mono M5).mono M5) ⟨_, _, List.mem_cons_self, hbv.mono M5, hbw.mono M5⟩) rfl rfl rfl (fun v G5 outs hle5 hh => ?_); obtain ⟨hG, rfl, E5, rfl, hV5⟩ := hh; replace hG := hG.symm; subst hG; simp only [List.cons_append, List.nil_append])
 refine A8 ?_
 refine X4 (outs := .blk bx [.slice pai agi.length cai] :: .slc pai cai 40 1 agi.length (agi.map pt) :: H5 _ E5) (rT rfl) (rT rfl) zY ?_
 (rw [if_neg (show ¬k = 12 by omega)]; exact ⟨_, E5, pai, cai, agi, _, rfl, by rw [A4t], hstA.uni hV5 (Nat.le_refl _), fun q hq => M5 _ (M5 _ (M5 _ (hsub9 q hq))), by rw [E4]; omega, fun s hs => (by split at hs <;> cases hs; exact ⟨_, rfl, hbv.mono M5⟩)⟩)
section three
variable {P : Program} {Γ : N7} {K : Po} {ops : Array Oper} {H : List (Nat × Nat)} {fuel : Nat} {listed : List Bool}
theorem A8v {j j' j'' : Nat} {σ : Sy} (hr : Region.ready .any ops listed.toArray = [j, j', j'']) (h : W5 P Γ ops K H fuel listed j σ) (h' : W5 P Γ ops K H fuel listed j' σ) (h'' : W5 P Γ ops K H fuel listed j'' σ) : N4 P Γ ops K H (fuel + 1) listed σ := by
 refine ⟨fun a w hs Hs hHs hall hdc => ?_⟩
 refine ⟨fun h0 => (by rw [hr] at h0; cases h0), fun k hk => ?_⟩
 have hk' := hk
 rw [hr] at hk
 simp at hk
 rcases hk with rfl | rfl | rfl
 ·exact h.run a w hs Hs hHs hall hdc hk'
 ·exact h'.run a w hs Hs hHs hall hdc hk'
 ·exact h''.run a w hs Hs hHs hall hdc hk'
end three
theorem A3o {l : List Value} (h : l.length = 3) : ∃ a b c, l = [a, b, c] := by
 match l, h with
 | [a, b, c], _ => exact ⟨a, b, c, rfl⟩
theorem A4u {es : List (List Value)} {a b c : Value} : (es ++ [[a, b, c]]).flatten = es.flatten ++ [a, b, c] := by simp
theorem P9.frz {G : IM} {p : Option Addr} {n c : Nat} {es : List (List Value)} {ss : List SV} (h : Sl G p n c 3 es.flatten) (hr : P9 G ss es) (hn : ss.length = n) : D7 G p n c 3 es :=
 D7.of h (by rw [hr.len, hn]) (fun x hx => (hr.each x hx).1) (fun x hx => (hr.each x hx).2)
theorem B8D {α : Type} {l : List α} {k : Nat} {s : α} (h : l[k]? = some s) (hk : k < l.length) : l.reverse[l.length - 1 - k]? = some s := by
 rw [List.getElem?_reverse zR0, show l.length - 1 - (l.length - 1 - k) = k by omega]; exact h
theorem R2.lam {G : IM} {S : IS} {pb pl : Option Addr} {cb cl : Nat} {eb el : List (List Value)} {e : List Value} {s : SV} {c : Nat} {B : BV} (hsb : D7 G pb c cb 3 eb) (hrb : P9 G (bnd B c) eb) (hsl : Sl G pl (S.L.length + 1) cl 3 (el.flatten ++ e)) (hrl : P9 G S.L el) (he : Q6 G s e) :
  R2 G ⟨B, c, S.L ++ [s]⟩ [.slice pb c cb, .slice pl (S.L.length + 1) cl] := by
 have h := hrl.snoc he
 have hl := h.len
 have hle : (S.L ++ [s]).length = S.L.length + 1 := by simp
 refine ⟨pb, cb, eb, pl, cl, el ++ [e], by rw [hle], hsb, hrb, ?_, h⟩
 rw [hle]
 exact D7.of (by simpa using hsl) (by rw [hl, hle]) (fun x hx => (h.each x hx).1) (fun x hx => (h.each x hx).2)
theorem P9.sl {G : IM} {p : Option Addr} {n c : Nat} {et : List (List Value)} {e : List Value} {ss : List SV} {s : SV} (h : Sl G p (n + 1) c 3 (et.flatten ++ e)) (hr : P9 G ss et) (he : Q6 G s e) (hn : ss.length = n) : D7 G p (n + 1) c 3 (et ++ [e]) ∧ P9 G (ss ++ [s]) (et ++ [e]) := by
 have h2 := hr.snoc he
 have hl : (et ++ [e]).length = n + 1 := by rw [h2.len, List.length_append, hn]; rfl
 exact ⟨D7.of (by simpa using h) hl (fun x hx => (h2.each x hx).1) (fun x hx => (h2.each x hx).2), h2⟩
def A0H (e : Tm) : Prop := ∀ (Γ : List (ByteArray × SV)) (S S' : IS) (o : Option SV) (G : IM) (sc cells : List Value) (pt : Option Addr) (ct : Nat) (et : List (List Value)),
  V3 Γ e S S' o → mBr e → S.ok → A1r Γ S.c → S.c + 2 * E4 e ≤ 999000 → S.L.length + E4 e ≤ 999000 → Γ.length + E4 e ≤ 900 → (∀ p ∈ Γ, p.1.size = 1) → R2 G S sc → B7 G e cells → D7 G pt Γ.length ct 3 et → P9 G (Γ.map Prod.snd).reverse et →
  Fn Tryz.prog 22 [.agg ⟨sc⟩, .string (A1v (Γ.map Prod.fst)), .slice pt Γ.length ct, .agg ⟨cells⟩] [] G (S4 S' o)
theorem A0H.lam {e : Tm} (h : A0H e) {Γ : List (ByteArray × SV)} {nm : ByteArray} {S S' : IS} {o : Option SV} {G : IM} {sc cells : List Value} {p4 : Option Addr} {c4 : Nat} {et : List (List Value)}
  (hI : V3 ((nm, .v S.c) :: Γ) e ⟨S.B, S.c + 1, S.L ++ [.v S.c]⟩ S' o) (hb : mBr e) (hS : S.ok) (hΓ : A1r Γ S.c) (hbd : S.c + 2 * (E4 e + 1) ≤ 999000) (hbl : S.L.length + (E4 e + 1) ≤ 999000) (hbg : Γ.length + (E4 e + 1) ≤ 900) (hone : ∀ p ∈ Γ, p.1.size = 1) (hnm : nm.size = 1)
  (hs : R2 G ⟨S.B, S.c + 1, S.L ++ [.v S.c]⟩ sc) (hr : B7 G e cells) (hsl : Sl G p4 (Γ.length + 1) c4 3 (et.flatten ++ [.int .i64 0, .int .i64 (S.c : Int), .slice none 0 0])) (hre : P9 G (Γ.map Prod.snd).reverse et) :
  Fn Tryz.prog 22 [.agg ⟨sc⟩, .string (A1v (Γ.map Prod.fst) ++ nm), .slice p4 (Γ.length + 1) c4, .agg ⟨cells⟩] [] G (S4 S' o) := by
 obtain ⟨hse3, hre3⟩ := P9.sl (s := .v S.c) hsl hre rfl (by rw [List.length_reverse, List.length_map])
 have hS1 : IS.ok ⟨S.B, S.c + 1, S.L ++ [.v S.c]⟩ := ⟨hS.wb.mono zS0, fun s hs => by
  rcases List.mem_append.1 hs with hs | hs
  ·exact (hS.ls s hs).mono zS0
  ·simp only [List.mem_singleton] at hs
   subst hs
   exact Z4 zS0⟩
 have hΓ1 : A1r ((nm, .v S.c) :: Γ) (S.c + 1) := fun p hp => by
  rcases List.mem_cons.1 hp with rfl | hp
  ·exact Z4 zS0
  ·exact (hΓ p hp).mono zR0
 have hnn : A1v (((nm, SV.v S.c) :: Γ).map Prod.fst) = A1v (Γ.map Prod.fst) ++ nm := (B8z hnm).symm
 have hT := h ((nm, .v S.c) :: Γ) ⟨S.B, S.c + 1, S.L ++ [.v S.c]⟩ S' o G sc cells p4 c4 _ hI hb hS1 hΓ1 (by show S.c + 1 + _ ≤ _; omega) (by show (S.L ++ [SV.v S.c]).length + _ ≤ _; rw [List.length_append, List.length_singleton]; omega) (by show Γ.length + 1 + _ ≤ _; omega) (fun p hp => by
  rcases List.mem_cons.1 hp with rfl | hp
  ·exact hnm
  ·exact hone p hp) hs hr hse3 (by rw [List.map_cons, List.reverse_cons]; exact hre3)
 rw [hnn] at hT
 exact hT
theorem B8E : ∀ (e : Tm), A0H e := by
 refine Tm.ind fun k nm num ty fr lb ks ih Γ S S' o G sc cells pt ct et hI hbr hS hΓ hbd hbl hbg hone hs hr hse hre => ?_
 simp only [mBr] at hbr
 obtain ⟨harr, hk1, hk12, hnm, hbrk⟩ := hbr
 rw [E4] at hbd hbl hbg
 obtain ⟨tk, tks⟩ := ty
 obtain ⟨fk, fks⟩ := fr
 obtain ⟨pt', ct', pf, cf, q, cq, ek, rfl, hk, hnum, hlb, hty, hfr, hsl, hkl⟩ := hr.open9
 have hs0 := hs
 obtain ⟨pb, cb, eb, pl, cl, el, rfl, hsb, hrb, hsL, hrL⟩ := hs
 have hnsz := B2q (Γ.map Prod.fst)
 rw [List.length_map] at hnsz
 have hpf := A30 ks
 have hgx : True := trivial
 refine C0 Tryz.func22 rfl Tryz.ntmps22 Tryz.results22 rfl ?_
 intro w0
 refine A4 ?_
 refine sE (B6 rfl rfl) rfl (fun b3 => ?_)
 refine sE (B6 rfl rfl) rfl (fun b4 => ?_)
 refine sE (A6 rfl) rfl (fun b5 => ?_)
 refine sE (A6 rfl) rfl (fun b6 => ?_)
 refine E1 ?_
 refine sB (qE rfl rfl) rfl rfl (fun h15 => ?_) (fun h15 => ?_)
 refine E1 ?_
 (have hk1' : k = 1 := zR0; obtain ⟨rfl, rfl⟩ := hI.v1 hk1'; have hX := B8B Γ nm G zR0 hone (hnm (.inl hk1')); rcases B2r (Γ := Γ) (nm := nm) with ⟨hp0, hl0⟩ | ⟨kk, s0, hp0, hkl0, hl0, hg0⟩ <;> (rw [hp0] at hX; simp only [A8u] at hX; refine H4 rfl hX rfl rfl ?_))
 refine B0 ?_
 refine sP (A2a rfl rfl zR0) rfl rfl ?_
 refine J0 ?_
 refine E9 (rC rfl (A3 rfl rfl)) (rC rfl (A3 rfl rfl)) (rT rfl) ?_
 (rw [hl0]; exact S4.mk (.v 0) rfl hs0 rfl (fun s h => (by cases h)))
 refine B0 ?_
 refine sP (A1U rfl rfl zR0) rfl rfl ?_
 refine A9 ?_
 (clear hgx; obtain ⟨bv, bo, ev0, rfl, hlv, hatv0, hrv0, hgv⟩ := hse.lt hre (i := Γ.length - 1 - kk) (s := s0) (by have := B8D hg0 (by rw [List.length_map]; exact hkl0); rwa [List.length_map] at this) zR0; have hov := hrv0.one; have hatv : ∀ hp, At hp G bv (bo + ((Γ.length : Int) - 1 - (kk : Int)).toNat * 3) ev0 := (fun hp => (by rw [show ((Γ.length : Int) - 1 - (kk : Int)).toNat = Γ.length - 1 - kk from zR0]; exact hatv0 hp)); refine D3 D4 rfl ?_)
 refine J3 (i := 0) (l' := [tt,ff,ff,ff,ff,ff,ff,ff,ff,ff,ff,ff]) rfl C8 (A3 rfl rfl) rfl zP0 rfl rfl ?_
 refine aP 1 rfl (qM rfl) rfl ?_
 refine aP 2 rfl (qM rfl) rfl ?_
 refine aP 3 rfl (pLn rfl rfl) rfl ?_
 refine aP 4 rfl (Q7 rfl rfl zR0 zR0) rfl ?_
 refine aP 5 rfl (qM rfl) rfl ?_
 refine aP 6 rfl (Q7 rfl rfl zR0 zR0) rfl ?_
 refine aP 7 rfl (A5v rfl rfl rfl zR0 zR0) rfl ?_
 refine aL 8 rfl (A5 rfl rfl (hatv _) hlv) rfl ?_
 refine A2 9 ?_
 refine C9 rfl ?_
 refine A2 10 ?_
 refine P3 rfl rfl rfl rfl hlv hov rfl rfl zF0 (by exact C6 (by rw [hlv]; rfl)) zC ?_
 refine aP 11 rfl (qA rfl) rfl ?_
 refine B5 ?_
 refine E9 (rC rfl (A3 rfl rfl)) (rC rfl (A5 rfl rfl (B3 zI0) hlv)) (rT rfl) ?_
 (rw [hl0]; exact S4.mk s0 rfl hs0 hrv0 (fun s h => (by cases h; rfl)))
 refine J2 ?_
 refine sB (qE rfl rfl) rfl rfl (fun h95 => ?_) (fun h95 => ?_)
 refine A9 ?_
 (have hk5 : k = 5 := zR0; obtain ⟨e0, o0, hks0, hB0, hI0, ho0⟩ := hI.v5 hk5; subst hks0 ho0; have hnm1 := hnm (.inr hk5); refine F4 rfl (A5p S hB0 zR0 G _ hs0) rfl rfl (fun v G1 hle1 hh => ?_); obtain ⟨sc1, tv, rfl, hs1, hrv⟩ := hh; obtain rfl := (show _ = _ from hrv); obtain ⟨pb1, cb1, eb1, pl1, cl1, el1, rfl, hsb1, hrb1, hsL1, hrL1⟩ := hs1; obtain ⟨bk, ok, ce0, rfl, hl9, hat9, hre9, hgb9⟩ := hsl.kidTm hkl (i := 0) zS0 zS0; replace hre9 : B7 G e0 ce0 := hre9; simp only [A1q] at hbrk; have hlc : H0 [e0] = E4 e0 := (by simp [H0]); rw [hlc] at hbd hbl hbg; have hgA : True := trivial; simp only [])
 refine C1 ?_
 refine sE (A6 rfl) rfl (fun b106 => ?_)
 refine sE (A6 rfl) rfl (fun b107 => ?_)
 refine A8 ?_
 (clear hgA; have hgA1 : True := trivial; refine A0V (fun (x : Option Addr × Nat) => ⟨[(13, .pointer (some ⟨b107, 0, none⟩)), (12, .pointer (some ⟨b106, 0, none⟩)), (9, .pointer (some ⟨b6, 0, none⟩)), (8, .pointer (some ⟨b5, 0, none⟩)), (7, .pointer (some ⟨b4, 0, none⟩)), (2, .slice pt Γ.length ct), (1, .string (A1v (Γ.map Prod.fst)))], [.slc x.1 x.2 56 3 (S.L.length + 1) (el1.flatten ++ [.int .i64 0, .int .i64 (S.c : Int), .slice none 0 0]), .blk b107 [.int .i64 0, .int .i64 (S.c : Int), .slice none 0 0], .blk b106 [.slice pb1 (S.c + 1) cb1, .slice x.1 (S.L.length + 1) x.2], .blk b6 [.int .i64 0, .int .i64 0, .slice none 0 0], .blk b5 [.slice none 0 0, .slice none 0 0], .blk b4 [.int .i64 k, .string nm, .int .i64 num, .int .i64 tk, .slice pt' tks.length ct', .int .i64 fk, .slice pf fks.length cf, .int .i64 lb, .slice (some ⟨bk, ok, none⟩) [e0].length cq]], G1⟩) (fun _ => True) ?_ ?_)
 refine D3 D4 rfl ?_
 refine J4 (i := 1) (l' := [ff,tt,ff,ff,ff,ff,ff,ff,ff]) rfl C8 (C3 rfl) rfl zP0 rfl rfl ?_
 refine aL 2 rfl (F0 rfl rfl) rfl ?_
 refine aL 4 rfl (A3 rfl rfl) rfl ?_
 refine P6 (j := 0) (j' := 5) zP0 ?_ ?_
 (refine D2 rfl (D1 rfl rfl rfl zR0 zL0 rfl) rfl rfl ?_; rintro _ ⟨b119, rfl⟩)
 refine P6 (j := 3) (j' := 5) zP0 ?_ ?_
 (refine Z3 rfl rfl rfl rfl rfl rfl (fun _ _ => by repeat (first | exact Sw.here | apply Sw.there)) hsL1.sl hrL1.ones (Nat.zero_le _) zL0 zR0 rfl rfl zC (fun p4 c4 => ?_); simp only [Nat.zero_add, List.nil_append])
 refine A2 5 ?_
 (refine D2 rfl (D1 rfl rfl rfl zR0 zL0 rfl) rfl rfl ?_; rintro _ ⟨b123, rfl⟩)
 exact y129
 (refine D2 rfl (D1 rfl rfl rfl zR0 zL0 rfl) rfl rfl ?_; rintro _ ⟨b131, rfl⟩)
 refine A2 3 ?_
 (refine Z3 rfl rfl rfl rfl rfl rfl (fun _ _ => by repeat (first | exact Sw.here | apply Sw.there)) hsL1.sl hrL1.ones (Nat.zero_le _) zL0 zR0 rfl rfl zC (fun p4 c4 => ?_); simp only [Nat.zero_add, List.nil_append])
 exact y129
 (refine D2 rfl (D1 rfl rfl rfl zR0 zL0 rfl) rfl rfl ?_; rintro _ ⟨b141, rfl⟩)
 refine A2 0 ?_
 (refine D2 rfl (D1 rfl rfl rfl zR0 zL0 rfl) rfl rfl ?_; rintro _ ⟨b143, rfl⟩)
 refine A2 3 ?_
 (refine Z3 rfl rfl rfl rfl rfl rfl (fun _ _ => by repeat (first | exact Sw.here | apply Sw.there)) hsL1.sl hrL1.ones (Nat.zero_le _) zL0 zR0 rfl rfl zC (fun p4 c4 => ?_); simp only [Nat.zero_add, List.nil_append])
 exact y129
 (clear hgA1; rintro ⟨p5, c5⟩ -; have hg1 : True := trivial; have hg2 : True := trivial; simp only [])
 refine tS ?_
 (clear hg1; refine A2c (cs := el1.flatten ++ [.int .i64 0, .int .i64 (S.c : Int), .slice none 0 0]) zD0 (fun G2 hle2 hsl2 hno2 => ?_); clear hno2; have hst2 := R2.lam (S := S) (B := S.B) (s := .v S.c) (hsb1.mono hle2) (hrb1.mono hle2) hsl2 (hrL1.mono hle2) rfl; have hle12 := hle1.trans hle2; have hgb2 := W4 hle12 hgb9; have hgA2 : True := trivial; refine A0V (fun (x : Nat × List Value × List Value × IM) => ⟨[(15, .bool o0.isSome), (14, .pointer (some ⟨x.1, 0, none⟩)), (13, .pointer (some ⟨b107, 0, none⟩)), (12, .pointer (some ⟨b106, 0, none⟩)), (9, .pointer (some ⟨b6, 0, none⟩)), (8, .pointer (some ⟨b5, 0, none⟩)), (7, .pointer (some ⟨b4, 0, none⟩))], [.blk b106 x.2.1, .blk b107 [.int .i64 0, .int .i64 (S.c : Int), .slice none 0 0], .blk x.1 x.2.2.1, .blk b6 [.int .i64 0, .int .i64 0, .slice none 0 0], .blk b5 [.slice none 0 0, .slice none 0 0], .blk b4 [.int .i64 k, .string nm, .int .i64 num, .int .i64 tk, .slice pt' tks.length ct', .int .i64 fk, .slice pf fks.length cf, .int .i64 lb, .slice (some ⟨bk, ok, none⟩) [e0].length cq]], x.2.2.2⟩) (fun x => B9 G2 x.2.2.2 ∧ ∃ u, R2 x.2.2.2 S' x.2.1 ∧ Q6 x.2.2.2 u x.2.2.1 ∧ ∀ t, o0 = some t → u = t) ?_ ?_)
 refine D3 D4 rfl ?_
 refine J3 (i := 0) (l' := [tt,ff,ff,ff,ff,ff,ff,ff,ff,ff,ff,ff,ff,ff,ff,ff,ff,ff,ff,ff,ff,ff,ff,ff]) rfl C8 (A3 rfl rfl) rfl zP0 rfl rfl ?_
 refine aP 1 rfl (qM rfl) rfl ?_
 refine aP 2 rfl (C3 rfl) rfl ?_
 refine aL 3 rfl (F0 rfl rfl) rfl ?_
 refine aP 4 rfl (A4A rfl rfl zR0) rfl ?_
 refine aP 6 rfl (qM rfl) rfl ?_
 refine aL 8 rfl (A3 rfl rfl) rfl ?_
 refine aP 11 rfl (C3 rfl) rfl ?_
 refine aL 12 rfl (F0 rfl rfl) rfl ?_
 refine aP 13 rfl (B8 (j := 0) rfl rfl rfl zS0) rfl ?_
 refine aL 14 rfl (A5 rfl rfl (At.im hle12 hgb9 hat9 _) hl9) rfl ?_
 refine A8v (j := 5) (j' := 9) (j'' := 20) zP0 ?_ ?_ ?_
 (refine D2 rfl (D1 rfl rfl rfl zR0 zL0 rfl) rfl rfl ?_; rintro _ ⟨b169, rfl⟩)
 refine A8v (j := 7) (j' := 9) (j'' := 20) zP0 ?_ ?_ ?_
 (refine Z3 rfl rfl rfl rfl rfl rfl (fun _ _ => by repeat (first | exact Sw.here | apply Sw.there)) (hse.mono (hle1.trans hle2)).sl hre.ones (Nat.zero_le _) zL0 zR0 rfl rfl zC (fun p4 c4 => ?_); simp only [Nat.zero_add, List.nil_append])
 refine P6 (j := 9) (j' := 20) zP0 ?_ ?_
 (refine D2 rfl (D1 rfl rfl rfl zR0 zL0 rfl) rfl rfl ?_; rintro _ ⟨b173, rfl⟩)
 refine P6 (j := 10) (j' := 20) zP0 ?_ ?_
 (refine P0 rfl rfl rfl rfl rfl rfl (fun _ _ => by repeat (first | exact Sw.here | apply Sw.there)) (K4 zI0) rfl zK0 zL0 zR0 rfl rfl zC (fun p5 c5 => ?_))
 (clear hg2; refine A0t (cs := et.flatten ++ [.int .i64 0, .int .i64 (S.c : Int), .slice none 0 0]) zD0 (fun G3 hle3 hsl3 hno3 => ?_); clear hno3; have hle13 := hle12.trans hle3; have hgb3 := W4 hle13 hgb9; have hT := A0H.lam (ih e0 zS0) hI0 hbrk.1 hS hΓ zR0 zR0 zR0 hone hnm1 (hst2.mono hle3) (hre9.mono hle13) hsl3 (hre.mono hle13))
 refine P6 (j := 15) (j' := 20) zP0 ?_ ?_
 (refine H1 rfl rfl hT rfl rfl rfl (fun v G4 hle4 hh => ?_); obtain ⟨sc4, tc4, u4, rfl, hs4, hr4, hu4⟩ := hh; have hs40 := hs4; obtain ⟨tp4, tn4, tk4, tq4, tm4, td4, rfl⟩ := hs4.two; have hl4 := hr4.len; have ho4 := hr4.one)
 refine aP 16 rfl (qM rfl) rfl ?_
 refine aP 17 rfl (pX rfl rfl) rfl ?_
 refine aP 18 rfl (pX rfl rfl) rfl ?_
 refine aP 19 rfl (pX rfl rfl) rfl ?_
 refine A2 20 ?_
 (refine D2 rfl (A6 rfl) rfl rfl ?_; rintro _ ⟨b184, rfl⟩)
 exact y131
 (refine D2 rfl (A6 rfl) rfl rfl ?_; rintro _ ⟨b192, rfl⟩)
 exact y128
 (refine D2 rfl (A6 rfl) rfl rfl ?_; rintro _ ⟨b206, rfl⟩)
 exact y126
 (refine D2 rfl (A6 rfl) rfl rfl ?_; rintro _ ⟨b223, rfl⟩)
 refine A2 9 ?_
 (refine D2 rfl (D1 rfl rfl rfl zR0 zL0 rfl) rfl rfl ?_; rintro _ ⟨b225, rfl⟩)
 exact y126
 (refine D2 rfl (D1 rfl rfl rfl zR0 zL0 rfl) rfl rfl ?_; rintro _ ⟨b242, rfl⟩)
 refine P6 (j := 7) (j' := 20) zP0 ?_ ?_
 (refine Z3 rfl rfl rfl rfl rfl rfl (fun _ _ => by repeat (first | exact Sw.here | apply Sw.there)) (hse.mono (hle1.trans hle2)).sl hre.ones (Nat.zero_le _) zL0 zR0 rfl rfl zC (fun p4 c4 => ?_); simp only [Nat.zero_add, List.nil_append])
 refine P6 (j := 10) (j' := 20) zP0 ?_ ?_
 (refine P0 rfl rfl rfl rfl rfl rfl (fun _ _ => by repeat (first | exact Sw.here | apply Sw.there)) (K4 zI0) rfl zK0 zL0 zR0 rfl rfl zC (fun p5 c5 => ?_))
 (clear hg2; refine A0t (cs := et.flatten ++ [.int .i64 0, .int .i64 (S.c : Int), .slice none 0 0]) zD0 (fun G3 hle3 hsl3 hno3 => ?_); clear hno3; have hle13 := hle12.trans hle3; have hgb3 := W4 hle13 hgb9; have hT := A0H.lam (ih e0 zS0) hI0 hbrk.1 hS hΓ zR0 zR0 zR0 hone hnm1 (hst2.mono hle3) (hre9.mono hle13) hsl3 (hre.mono hle13))
 refine P6 (j := 15) (j' := 20) zP0 ?_ ?_
 (refine H1 rfl rfl hT rfl rfl rfl (fun v G4 hle4 hh => ?_); obtain ⟨sc4, tc4, u4, rfl, hs4, hr4, hu4⟩ := hh; have hs40 := hs4; obtain ⟨tp4, tn4, tk4, tq4, tm4, td4, rfl⟩ := hs4.two; have hl4 := hr4.len; have ho4 := hr4.one)
 refine aP 16 rfl (qM rfl) rfl ?_
 refine aP 17 rfl (pX rfl rfl) rfl ?_
 refine aP 18 rfl (pX rfl rfl) rfl ?_
 refine aP 19 rfl (pX rfl rfl) rfl ?_
 refine A2 20 ?_
 (refine D2 rfl (A6 rfl) rfl rfl ?_; rintro _ ⟨b255, rfl⟩)
 exact y131
 (refine D2 rfl (A6 rfl) rfl rfl ?_; rintro _ ⟨b263, rfl⟩)
 exact y128
 (refine D2 rfl (A6 rfl) rfl rfl ?_; rintro _ ⟨b277, rfl⟩)
 exact y126
 (refine D2 rfl (A6 rfl) rfl rfl ?_; rintro _ ⟨b294, rfl⟩)
 refine A2 7 ?_
 (refine Z3 rfl rfl rfl rfl rfl rfl (fun _ _ => by repeat (first | exact Sw.here | apply Sw.there)) (hse.mono (hle1.trans hle2)).sl hre.ones (Nat.zero_le _) zL0 zR0 rfl rfl zC (fun p4 c4 => ?_); simp only [Nat.zero_add, List.nil_append])
 exact y126
 (refine D2 rfl (A6 rfl) rfl rfl ?_; rintro _ ⟨b313, rfl⟩)
 refine P6 (j := 7) (j' := 9) zP0 ?_ ?_
 (refine Z3 rfl rfl rfl rfl rfl rfl (fun _ _ => by repeat (first | exact Sw.here | apply Sw.there)) (hse.mono (hle1.trans hle2)).sl hre.ones (Nat.zero_le _) zL0 zR0 rfl rfl zC (fun p4 c4 => ?_); simp only [Nat.zero_add, List.nil_append])
 refine A2 9 ?_
 (refine D2 rfl (D1 rfl rfl rfl zR0 zL0 rfl) rfl rfl ?_; rintro _ ⟨b317, rfl⟩)
 exact y126
 (refine D2 rfl (D1 rfl rfl rfl zR0 zL0 rfl) rfl rfl ?_; rintro _ ⟨b334, rfl⟩)
 refine A2 7 ?_
 (refine Z3 rfl rfl rfl rfl rfl rfl (fun _ _ => by repeat (first | exact Sw.here | apply Sw.there)) (hse.mono (hle1.trans hle2)).sl hre.ones (Nat.zero_le _) zL0 zR0 rfl rfl zC (fun p4 c4 => ?_); simp only [Nat.zero_add, List.nil_append])
 exact y126
 (refine D2 rfl (D1 rfl rfl rfl zR0 zL0 rfl) rfl rfl ?_; rintro _ ⟨b353, rfl⟩)
 refine P6 (j := 5) (j' := 20) zP0 ?_ ?_
 (refine D2 rfl (D1 rfl rfl rfl zR0 zL0 rfl) rfl rfl ?_; rintro _ ⟨b355, rfl⟩)
 refine P6 (j := 7) (j' := 20) zP0 ?_ ?_
 (refine Z3 rfl rfl rfl rfl rfl rfl (fun _ _ => by repeat (first | exact Sw.here | apply Sw.there)) (hse.mono (hle1.trans hle2)).sl hre.ones (Nat.zero_le _) zL0 zR0 rfl rfl zC (fun p4 c4 => ?_); simp only [Nat.zero_add, List.nil_append])
 refine P6 (j := 10) (j' := 20) zP0 ?_ ?_
 (refine P0 rfl rfl rfl rfl rfl rfl (fun _ _ => by repeat (first | exact Sw.here | apply Sw.there)) (K4 zI0) rfl zK0 zL0 zR0 rfl rfl zC (fun p5 c5 => ?_))
 (clear hg2; refine A0t (cs := et.flatten ++ [.int .i64 0, .int .i64 (S.c : Int), .slice none 0 0]) zD0 (fun G3 hle3 hsl3 hno3 => ?_); clear hno3; have hle13 := hle12.trans hle3; have hgb3 := W4 hle13 hgb9; have hT := A0H.lam (ih e0 zS0) hI0 hbrk.1 hS hΓ zR0 zR0 zR0 hone hnm1 (hst2.mono hle3) (hre9.mono hle13) hsl3 (hre.mono hle13))
 refine P6 (j := 15) (j' := 20) zP0 ?_ ?_
 (refine H1 rfl rfl hT rfl rfl rfl (fun v G4 hle4 hh => ?_); obtain ⟨sc4, tc4, u4, rfl, hs4, hr4, hu4⟩ := hh; have hs40 := hs4; obtain ⟨tp4, tn4, tk4, tq4, tm4, td4, rfl⟩ := hs4.two; have hl4 := hr4.len; have ho4 := hr4.one)
 refine aP 16 rfl (qM rfl) rfl ?_
 refine aP 17 rfl (pX rfl rfl) rfl ?_
 refine aP 18 rfl (pX rfl rfl) rfl ?_
 refine aP 19 rfl (pX rfl rfl) rfl ?_
 refine A2 20 ?_
 (refine D2 rfl (A6 rfl) rfl rfl ?_; rintro _ ⟨b368, rfl⟩)
 exact y131
 (refine D2 rfl (A6 rfl) rfl rfl ?_; rintro _ ⟨b376, rfl⟩)
 exact y128
 (refine D2 rfl (A6 rfl) rfl rfl ?_; rintro _ ⟨b390, rfl⟩)
 exact y126
 (refine D2 rfl (A6 rfl) rfl rfl ?_; rintro _ ⟨b407, rfl⟩)
 refine A2 7 ?_
 (refine Z3 rfl rfl rfl rfl rfl rfl (fun _ _ => by repeat (first | exact Sw.here | apply Sw.there)) (hse.mono (hle1.trans hle2)).sl hre.ones (Nat.zero_le _) zL0 zR0 rfl rfl zC (fun p4 c4 => ?_); simp only [Nat.zero_add, List.nil_append])
 exact y126
 (refine D2 rfl (A6 rfl) rfl rfl ?_; rintro _ ⟨b426, rfl⟩)
 refine A2 5 ?_
 (refine D2 rfl (D1 rfl rfl rfl zR0 zL0 rfl) rfl rfl ?_; rintro _ ⟨b428, rfl⟩)
 refine A2 7 ?_
 (refine Z3 rfl rfl rfl rfl rfl rfl (fun _ _ => by repeat (first | exact Sw.here | apply Sw.there)) (hse.mono (hle1.trans hle2)).sl hre.ones (Nat.zero_le _) zL0 zR0 rfl rfl zC (fun p4 c4 => ?_); simp only [Nat.zero_add, List.nil_append])
 exact y126
 (refine D2 rfl (A6 rfl) rfl rfl ?_; rintro _ ⟨b447, rfl⟩)
 refine P6 (j := 5) (j' := 9) zP0 ?_ ?_
 (refine D2 rfl (D1 rfl rfl rfl zR0 zL0 rfl) rfl rfl ?_; rintro _ ⟨b449, rfl⟩)
 refine P6 (j := 7) (j' := 9) zP0 ?_ ?_
 (refine Z3 rfl rfl rfl rfl rfl rfl (fun _ _ => by repeat (first | exact Sw.here | apply Sw.there)) (hse.mono (hle1.trans hle2)).sl hre.ones (Nat.zero_le _) zL0 zR0 rfl rfl zC (fun p4 c4 => ?_); simp only [Nat.zero_add, List.nil_append])
 refine A2 9 ?_
 (refine D2 rfl (D1 rfl rfl rfl zR0 zL0 rfl) rfl rfl ?_; rintro _ ⟨b453, rfl⟩)
 exact y126
 (refine D2 rfl (D1 rfl rfl rfl zR0 zL0 rfl) rfl rfl ?_; rintro _ ⟨b470, rfl⟩)
 refine A2 7 ?_
 (refine Z3 rfl rfl rfl rfl rfl rfl (fun _ _ => by repeat (first | exact Sw.here | apply Sw.there)) (hse.mono (hle1.trans hle2)).sl hre.ones (Nat.zero_le _) zL0 zR0 rfl rfl zC (fun p4 c4 => ?_); simp only [Nat.zero_add, List.nil_append])
 exact y126
 (refine D2 rfl (D1 rfl rfl rfl zR0 zL0 rfl) rfl rfl ?_; rintro _ ⟨b489, rfl⟩)
 refine A2 5 ?_
 (refine D2 rfl (D1 rfl rfl rfl zR0 zL0 rfl) rfl rfl ?_; rintro _ ⟨b491, rfl⟩)
 refine A2 7 ?_
 (refine Z3 rfl rfl rfl rfl rfl rfl (fun _ _ => by repeat (first | exact Sw.here | apply Sw.there)) (hse.mono (hle1.trans hle2)).sl hre.ones (Nat.zero_le _) zL0 zR0 rfl rfl zC (fun p4 c4 => ?_); simp only [Nat.zero_add, List.nil_append])
 exact y126
 (clear hgA2; rintro ⟨b14, sc4, tc4, G4⟩ ⟨hle24, u4, hs4, hr4, hu4⟩; simp only [] at hle24 hs4 hr4 hu4 ⊢; have hs40 := hs4; obtain ⟨tp4, tn4, tk4, tq4, tm4, td4, rfl⟩ := hs4.two; have hl4 := hr4.len; have ho4 := hr4.one)
 refine tS ?_
 refine D3 D4 rfl ?_
 refine J3 (i := 2) (l' := [ff,ff,tt,ff,ff,ff,ff,ff]) rfl C8 (A5 rfl rfl (B3 zI0) hl4) rfl zP0 rfl rfl ?_
 refine aL 0 rfl (A3 rfl rfl) rfl ?_
 refine aL 1 rfl (A3 rfl rfl) rfl ?_
 refine aP 4 rfl (qM rfl) rfl ?_
 refine A2 3 ?_
 (refine H1 rfl rfl (A6A false (.v S.c) u4 G4 _ tc4 rfl hr4) rfl rfl rfl (fun v G5 hle5 hh => ?_); obtain ⟨ct5, rfl, hrt5⟩ := hh; have hl5 := hrt5.len; have ho5 := hrt5.one)
 refine A2 5 ?_
 refine C9 rfl ?_
 refine A2 6 ?_
 refine P3 rfl rfl rfl rfl hl5 ho5 rfl rfl zF0 (by exact C6 (by rw [hl5]; rfl)) zC ?_
 refine aP 7 rfl (qA rfl) rfl ?_
 refine B5 ?_
 refine E9 (rC rfl (A3 rfl rfl)) (rC rfl (A5 rfl rfl (B3 zI0) hl5)) (rT rfl) ?_
 (exact S4.mk (.t false (.v S.c) u4) (by cases o0 <;> rfl) (hs40.mono hle5) hrt5 (fun s h => (by cases o0 with | none => cases h | some t => cases h; rw [hu4 t rfl])))
 refine B0 ?_
 (refine J8 (D1 rfl rfl rfl zR0 zL0 rfl) rfl ?_; rintro _ ⟨b537, rfl⟩)
 refine E7 ?_
 refine C2 ?_
 (obtain ⟨S1, os, hIL, hor⟩ := hI.vn zR0 zR0; have hgl : True := trivial; refine L8 (fun (x : Nat × List Value × Option Addr × Nat × List (List Value) × IM) => ⟨[(17, .int .i64 x.1), (16, .slice x.2.2.1 x.1 x.2.2.2.1), (9, .pointer (some ⟨b6, 0, none⟩)), (8, .pointer (some ⟨b5, 0, none⟩)), (7, .pointer (some ⟨b4, 0, none⟩)), (4, .pointer (some ⟨b3, 0, none⟩)), (2, .slice pt Γ.length ct), (1, .string (A1v (Γ.map Prod.fst)))], [.slc x.2.2.1 x.2.2.2.1 56 3 x.1 x.2.2.2.2.1.flatten, .blk b6 [.int .i64 0, .int .i64 0, .slice none 0 0], .blk b5 [.slice none 0 0, .slice none 0 0], .blk b4 [.int .i64 k, .string nm, .int .i64 num, .int .i64 tk, .slice pt' tks.length ct', .int .i64 fk, .slice pf fks.length cf, .int .i64 lb, .slice q ks.length cq], .blk b3 x.2.1], x.2.2.2.2.2⟩) (fun x => x.1 ≤ ks.length ∧ B9 G x.2.2.2.2.2 ∧ ∃ Si os' ss, R2 x.2.2.2.2.2 Si x.2.1 ∧ Si.ok ∧ S.c ≤ Si.c ∧ Si.c ≤ S.c + 2 * H0 (ks.take x.1) ∧ Si.L.length ≤ S.L.length + H0 (ks.take x.1) ∧ ss.length = x.1 ∧ P9 x.2.2.2.2.2 ss x.2.2.2.2.1 ∧ (∀ s ∈ ss, s.lt Si.c) ∧ A0W Γ (ks.drop x.1) Si S1 os' ∧ os = os'.map (ss ++ ·)) (fun x => ks.length - x.1) (0, [.slice pb S.c cb, .slice pl S.L.length cl], (some ⟨b537, 0, none⟩), 0, [], G) ?_ ?_ ?_)
 (simp only [I9]; exact F8)
 (exact ⟨Nat.zero_le _, B9.refl _, S, os, [], hs0, hS, Nat.le_refl _, by omega, by omega, rfl, .nil, by simp, hIL, by cases os <;> rfl⟩)
 (rintro ⟨(i : Nat), sci, p9, c9, es, Gi⟩ ⟨hi, hle, Si, os', ss, hsi, hoki, hlei, hubi, hlni, hssl, hrs, hlts, hILi, hos⟩; simp only [] at hi hle hsi hoki hlei hubi hlni hssl hrs hlts hILi hos ⊢; have hsi0 := hsi; obtain ⟨pbi, cbi, ebi, pli, cli, eli, rfl, -, -, -, -⟩ := hsi)
 refine B0 ?_
 refine sB (N5 rfl rfl) rfl rfl (fun h559 => ?_) (fun h559 => ?_)
 refine A9 ?_
 refine C2 ?_
 refine tS ?_
 (have hil : i < ks.length := zR0; clear hgl; obtain ⟨bk, ok, e9, rfl, hlk, hatk, hrek, hgbk⟩ := (hsl.mono hle).kidTm (hkl.mono hle) (i := i) hil hil; have hct := A1A (ks := ks) (i := i) hil; have hctk := A1z (ks := ks) (i := i) hil; refine D3 D4 rfl ?_)
 refine J3 (i := 0) (l' := [tt,ff,ff,ff,ff,ff,ff,ff,ff,ff,ff,ff,ff,ff,ff,ff,ff,ff]) rfl C8 (A3 rfl rfl) rfl zP0 rfl rfl ?_
 refine aP 1 rfl (qM rfl) rfl ?_
 refine aP 2 rfl (qM rfl) rfl ?_
 refine aP 3 rfl (C3 rfl) rfl ?_
 refine aL 4 rfl (F0 rfl rfl) rfl ?_
 refine aP 5 rfl (qM rfl) rfl ?_
 refine aP 6 rfl (A5v rfl rfl rfl zR0 zR0) rfl ?_
 refine aL 7 rfl (A5 rfl rfl (hatk _) hlk) rfl ?_
 refine A8v (j := 8) (j' := 13) (j'' := 14) zP0 ?_ ?_ ?_
 (rcases hILi.hd hil with ⟨hIf, hosn⟩ | ⟨S2, s2, os2, hIf, hIL2, hos2⟩ <;> (have hpr := A3n ks[i] hIf hoki (hΓ.mono hlei); have hT := ih ks[i] (List.getElem_mem hil) Γ Si _ _ Gi _ e9 _ _ _ hIf (A3O hil hbrk) hoki (hΓ.mono hlei) zR0 zR0 zR0 hone hsi0 hrek (hse.mono hle) (hre.mono hle); refine H1 rfl rfl hT rfl rfl rfl (fun v G4 hle4 hh => ?_); obtain ⟨sc4, tc4, u4, rfl, hs4, hr4, hu4⟩ := hh; have hs40 := hs4; obtain ⟨tp4, tn4, tk4, tq4, tm4, td4, rfl⟩ := hs4.two; have hl4 := hr4.len; have ho4 := hr4.one; obtain ⟨v1, v2, v3, rfl⟩ := A3o hl4; clear hT) <;> first | simp only [Option.isSome_some] | simp only [Option.isSome_none])
 refine aP 9 rfl (qM rfl) rfl ?_
 refine aP 10 rfl (pX rfl rfl) rfl ?_
 refine aP 11 rfl (pX rfl rfl) rfl ?_
 refine aP 12 rfl (pX rfl rfl) rfl ?_
 refine P6 (j := 13) (j' := 14) zP0 ?_ ?_
 (refine D2 rfl (A6 rfl) rfl rfl ?_; rintro _ ⟨b584, rfl⟩)
 refine A2 14 ?_
 (refine D2 rfl (A6 rfl) rfl rfl ?_; rintro _ ⟨b586, rfl⟩)
 exact y127
 (refine D2 rfl (A6 rfl) rfl rfl ?_; rintro _ ⟨b622, rfl⟩)
 refine A2 13 ?_
 (refine D2 rfl (A6 rfl) rfl rfl ?_; rintro _ ⟨b624, rfl⟩)
 exact y127
 refine aP 9 rfl (qM rfl) rfl ?_
 refine aP 10 rfl (pX rfl rfl) rfl ?_
 refine aP 11 rfl (pX rfl rfl) rfl ?_
 refine aP 12 rfl (pX rfl rfl) rfl ?_
 refine P6 (j := 13) (j' := 14) zP0 ?_ ?_
 (refine D2 rfl (A6 rfl) rfl rfl ?_; rintro _ ⟨b665, rfl⟩)
 refine A2 14 ?_
 (refine D2 rfl (A6 rfl) rfl rfl ?_; rintro _ ⟨b667, rfl⟩)
 refine A2 15 ?_
 refine C9 rfl ?_
 refine A2 16 ?_
 refine P3 rfl rfl rfl rfl hl4 ho4 rfl rfl zF0 zJ0 zC ?_
 refine aP 17 rfl (qA rfl) rfl ?_
 refine Z0 ?_
 (refine J8 (D1 rfl rfl rfl zR0 zL0 rfl) rfl ?_; rintro _ ⟨b694, rfl⟩)
 (refine Y0 rfl rfl rfl rfl rfl (fun _ _ => by repeat (first | exact Sw.here | apply Sw.there)) (K4 zI0) rfl (fun u hu => List.all_eq_true.1 ho4 u hu) zL0 zR0 rfl (fun pn' cn' => ?_))
 refine A9 ?_
 refine sP (K0 rfl rfl zR0 zR0) rfl rfl ?_
 refine A4 ?_
 (obtain rfl := hu4 _ rfl; refine J7 (i + 1, [.slice tp4 tn4 tk4, .slice tq4 tm4 td4], pn', cn', es ++ [[v1, v2, v3]], G4) zP ?_ ?_)
 (dsimp only; exact ⟨by omega, hle.trans hle4, S2, os2, ss ++ [u4], hs40, hpr.1.ok, by have := hpr.1.le; omega, by have := hpr.1.ub; omega, by have := hpr.1.ln; omega, by simp [hssl], (hrs.mono hle4).snoc hr4, fun s hs => zX, hIL2, by rw [hos, hos2]; cases os2 <;> simp⟩)
 (show ks.length - (i + 1) < ks.length - i; omega)
 (refine D2 rfl (A6 rfl) rfl rfl ?_; rintro _ ⟨b708, rfl⟩)
 refine A2 13 ?_
 (refine D2 rfl (A6 rfl) rfl rfl ?_; rintro _ ⟨b710, rfl⟩)
 refine A2 15 ?_
 refine C9 rfl ?_
 refine A2 16 ?_
 refine P3 rfl rfl rfl rfl hl4 ho4 rfl rfl zF0 zJ0 zC ?_
 refine aP 17 rfl (qA rfl) rfl ?_
 refine Z0 ?_
 (refine J8 (D1 rfl rfl rfl zR0 zL0 rfl) rfl ?_; rintro _ ⟨b737, rfl⟩)
 (refine Y0 rfl rfl rfl rfl rfl (fun _ _ => by repeat (first | exact Sw.here | apply Sw.there)) (K4 zI0) rfl (fun u hu => List.all_eq_true.1 ho4 u hu) zL0 zR0 rfl (fun pn' cn' => ?_))
 refine A9 ?_
 refine sP (K0 rfl rfl zR0 zR0) rfl rfl ?_
 refine A4 ?_
 (obtain rfl := hu4 _ rfl; refine J7 (i + 1, [.slice tp4 tn4 tk4, .slice tq4 tm4 td4], pn', cn', es ++ [[v1, v2, v3]], G4) zP ?_ ?_)
 (dsimp only; exact ⟨by omega, hle.trans hle4, S2, os2, ss ++ [u4], hs40, hpr.1.ok, by have := hpr.1.le; omega, by have := hpr.1.ub; omega, by have := hpr.1.ln; omega, by simp [hssl], (hrs.mono hle4).snoc hr4, fun s hs => zX, hIL2, by rw [hos, hos2]; cases os2 <;> simp⟩)
 (show ks.length - (i + 1) < ks.length - i; omega)
 (refine D2 rfl (A6 rfl) rfl rfl ?_; rintro _ ⟨b751, rfl⟩)
 refine P6 (j := 8) (j' := 14) zP0 ?_ ?_
 (rcases hILi.hd hil with ⟨hIf, hosn⟩ | ⟨S2, s2, os2, hIf, hIL2, hos2⟩ <;> (have hpr := A3n ks[i] hIf hoki (hΓ.mono hlei); have hT := ih ks[i] (List.getElem_mem hil) Γ Si _ _ Gi _ e9 _ _ _ hIf (A3O hil hbrk) hoki (hΓ.mono hlei) zR0 zR0 zR0 hone hsi0 hrek (hse.mono hle) (hre.mono hle); refine H1 rfl rfl hT rfl rfl rfl (fun v G4 hle4 hh => ?_); obtain ⟨sc4, tc4, u4, rfl, hs4, hr4, hu4⟩ := hh; have hs40 := hs4; obtain ⟨tp4, tn4, tk4, tq4, tm4, td4, rfl⟩ := hs4.two; have hl4 := hr4.len; have ho4 := hr4.one; obtain ⟨v1, v2, v3, rfl⟩ := A3o hl4; clear hT) <;> first | simp only [Option.isSome_some] | simp only [Option.isSome_none])
 refine aP 9 rfl (qM rfl) rfl ?_
 refine aP 10 rfl (pX rfl rfl) rfl ?_
 refine aP 11 rfl (pX rfl rfl) rfl ?_
 refine aP 12 rfl (pX rfl rfl) rfl ?_
 refine A2 14 ?_
 (refine D2 rfl (A6 rfl) rfl rfl ?_; rintro _ ⟨b759, rfl⟩)
 exact y127
 refine aP 9 rfl (qM rfl) rfl ?_
 refine aP 10 rfl (pX rfl rfl) rfl ?_
 refine aP 11 rfl (pX rfl rfl) rfl ?_
 refine aP 12 rfl (pX rfl rfl) rfl ?_
 refine A2 14 ?_
 (refine D2 rfl (A6 rfl) rfl rfl ?_; rintro _ ⟨b800, rfl⟩)
 refine A2 15 ?_
 refine C9 rfl ?_
 refine A2 16 ?_
 refine P3 rfl rfl rfl rfl hl4 ho4 rfl rfl zF0 zJ0 zC ?_
 refine aP 17 rfl (qA rfl) rfl ?_
 refine Z0 ?_
 (refine J8 (D1 rfl rfl rfl zR0 zL0 rfl) rfl ?_; rintro _ ⟨b827, rfl⟩)
 (refine Y0 rfl rfl rfl rfl rfl (fun _ _ => by repeat (first | exact Sw.here | apply Sw.there)) (K4 zI0) rfl (fun u hu => List.all_eq_true.1 ho4 u hu) zL0 zR0 rfl (fun pn' cn' => ?_))
 refine A9 ?_
 refine sP (K0 rfl rfl zR0 zR0) rfl rfl ?_
 refine A4 ?_
 (obtain rfl := hu4 _ rfl; refine J7 (i + 1, [.slice tp4 tn4 tk4, .slice tq4 tm4 td4], pn', cn', es ++ [[v1, v2, v3]], G4) zP ?_ ?_)
 (dsimp only; exact ⟨by omega, hle.trans hle4, S2, os2, ss ++ [u4], hs40, hpr.1.ok, by have := hpr.1.le; omega, by have := hpr.1.ub; omega, by have := hpr.1.ln; omega, by simp [hssl], (hrs.mono hle4).snoc hr4, fun s hs => zX, hIL2, by rw [hos, hos2]; cases os2 <;> simp⟩)
 (show ks.length - (i + 1) < ks.length - i; omega)
 (refine D2 rfl (A6 rfl) rfl rfl ?_; rintro _ ⟨b841, rfl⟩)
 refine A2 8 ?_
 (rcases hILi.hd hil with ⟨hIf, hosn⟩ | ⟨S2, s2, os2, hIf, hIL2, hos2⟩ <;> (have hpr := A3n ks[i] hIf hoki (hΓ.mono hlei); have hT := ih ks[i] (List.getElem_mem hil) Γ Si _ _ Gi _ e9 _ _ _ hIf (A3O hil hbrk) hoki (hΓ.mono hlei) zR0 zR0 zR0 hone hsi0 hrek (hse.mono hle) (hre.mono hle); refine H1 rfl rfl hT rfl rfl rfl (fun v G4 hle4 hh => ?_); obtain ⟨sc4, tc4, u4, rfl, hs4, hr4, hu4⟩ := hh; have hs40 := hs4; obtain ⟨tp4, tn4, tk4, tq4, tm4, td4, rfl⟩ := hs4.two; have hl4 := hr4.len; have ho4 := hr4.one; obtain ⟨v1, v2, v3, rfl⟩ := A3o hl4; clear hT) <;> first | simp only [Option.isSome_some] | simp only [Option.isSome_none])
 refine aP 9 rfl (qM rfl) rfl ?_
 refine aP 10 rfl (pX rfl rfl) rfl ?_
 refine aP 11 rfl (pX rfl rfl) rfl ?_
 refine aP 12 rfl (pX rfl rfl) rfl ?_
 exact y127
 refine aP 9 rfl (qM rfl) rfl ?_
 refine aP 10 rfl (pX rfl rfl) rfl ?_
 refine aP 11 rfl (pX rfl rfl) rfl ?_
 refine aP 12 rfl (pX rfl rfl) rfl ?_
 refine A2 15 ?_
 refine C9 rfl ?_
 refine A2 16 ?_
 refine P3 rfl rfl rfl rfl hl4 ho4 rfl rfl zF0 zJ0 zC ?_
 refine aP 17 rfl (qA rfl) rfl ?_
 refine Z0 ?_
 (refine J8 (D1 rfl rfl rfl zR0 zL0 rfl) rfl ?_; rintro _ ⟨b913, rfl⟩)
 (refine Y0 rfl rfl rfl rfl rfl (fun _ _ => by repeat (first | exact Sw.here | apply Sw.there)) (K4 zI0) rfl (fun u hu => List.all_eq_true.1 ho4 u hu) zL0 zR0 rfl (fun pn' cn' => ?_))
 refine A9 ?_
 refine sP (K0 rfl rfl zR0 zR0) rfl rfl ?_
 refine A4 ?_
 (obtain rfl := hu4 _ rfl; refine J7 (i + 1, [.slice tp4 tn4 tk4, .slice tq4 tm4 td4], pn', cn', es ++ [[v1, v2, v3]], G4) zP ?_ ?_)
 (dsimp only; exact ⟨by omega, hle.trans hle4, S2, os2, ss ++ [u4], hs40, hpr.1.ok, by have := hpr.1.le; omega, by have := hpr.1.ub; omega, by have := hpr.1.ln; omega, by simp [hssl], (hrs.mono hle4).snoc hr4, fun s hs => zX, hIL2, by rw [hos, hos2]; cases os2 <;> simp⟩)
 (show ks.length - (i + 1) < ks.length - i; omega)
 (refine D2 rfl (A6 rfl) rfl rfl ?_; rintro _ ⟨b927, rfl⟩)
 refine P6 (j := 8) (j' := 13) zP0 ?_ ?_
 (rcases hILi.hd hil with ⟨hIf, hosn⟩ | ⟨S2, s2, os2, hIf, hIL2, hos2⟩ <;> (have hpr := A3n ks[i] hIf hoki (hΓ.mono hlei); have hT := ih ks[i] (List.getElem_mem hil) Γ Si _ _ Gi _ e9 _ _ _ hIf (A3O hil hbrk) hoki (hΓ.mono hlei) zR0 zR0 zR0 hone hsi0 hrek (hse.mono hle) (hre.mono hle); refine H1 rfl rfl hT rfl rfl rfl (fun v G4 hle4 hh => ?_); obtain ⟨sc4, tc4, u4, rfl, hs4, hr4, hu4⟩ := hh; have hs40 := hs4; obtain ⟨tp4, tn4, tk4, tq4, tm4, td4, rfl⟩ := hs4.two; have hl4 := hr4.len; have ho4 := hr4.one; obtain ⟨v1, v2, v3, rfl⟩ := A3o hl4; clear hT) <;> first | simp only [Option.isSome_some] | simp only [Option.isSome_none])
 refine aP 9 rfl (qM rfl) rfl ?_
 refine aP 10 rfl (pX rfl rfl) rfl ?_
 refine aP 11 rfl (pX rfl rfl) rfl ?_
 refine aP 12 rfl (pX rfl rfl) rfl ?_
 refine A2 13 ?_
 (refine D2 rfl (A6 rfl) rfl rfl ?_; rintro _ ⟨b935, rfl⟩)
 exact y127
 refine aP 9 rfl (qM rfl) rfl ?_
 refine aP 10 rfl (pX rfl rfl) rfl ?_
 refine aP 11 rfl (pX rfl rfl) rfl ?_
 refine aP 12 rfl (pX rfl rfl) rfl ?_
 refine A2 13 ?_
 (refine D2 rfl (A6 rfl) rfl rfl ?_; rintro _ ⟨b976, rfl⟩)
 refine A2 15 ?_
 refine C9 rfl ?_
 refine A2 16 ?_
 refine P3 rfl rfl rfl rfl hl4 ho4 rfl rfl zF0 zJ0 zC ?_
 refine aP 17 rfl (qA rfl) rfl ?_
 refine Z0 ?_
 (refine J8 (D1 rfl rfl rfl zR0 zL0 rfl) rfl ?_; rintro _ ⟨b1003, rfl⟩)
 (refine Y0 rfl rfl rfl rfl rfl (fun _ _ => by repeat (first | exact Sw.here | apply Sw.there)) (K4 zI0) rfl (fun u hu => List.all_eq_true.1 ho4 u hu) zL0 zR0 rfl (fun pn' cn' => ?_))
 refine A9 ?_
 refine sP (K0 rfl rfl zR0 zR0) rfl rfl ?_
 refine A4 ?_
 (obtain rfl := hu4 _ rfl; refine J7 (i + 1, [.slice tp4 tn4 tk4, .slice tq4 tm4 td4], pn', cn', es ++ [[v1, v2, v3]], G4) zP ?_ ?_)
 (dsimp only; exact ⟨by omega, hle.trans hle4, S2, os2, ss ++ [u4], hs40, hpr.1.ok, by have := hpr.1.le; omega, by have := hpr.1.ub; omega, by have := hpr.1.ln; omega, by simp [hssl], (hrs.mono hle4).snoc hr4, fun s hs => zX, hIL2, by rw [hos, hos2]; cases os2 <;> simp⟩)
 (show ks.length - (i + 1) < ks.length - i; omega)
 (refine D2 rfl (A6 rfl) rfl rfl ?_; rintro _ ⟨b1017, rfl⟩)
 refine A2 8 ?_
 (rcases hILi.hd hil with ⟨hIf, hosn⟩ | ⟨S2, s2, os2, hIf, hIL2, hos2⟩ <;> (have hpr := A3n ks[i] hIf hoki (hΓ.mono hlei); have hT := ih ks[i] (List.getElem_mem hil) Γ Si _ _ Gi _ e9 _ _ _ hIf (A3O hil hbrk) hoki (hΓ.mono hlei) zR0 zR0 zR0 hone hsi0 hrek (hse.mono hle) (hre.mono hle); refine H1 rfl rfl hT rfl rfl rfl (fun v G4 hle4 hh => ?_); obtain ⟨sc4, tc4, u4, rfl, hs4, hr4, hu4⟩ := hh; have hs40 := hs4; obtain ⟨tp4, tn4, tk4, tq4, tm4, td4, rfl⟩ := hs4.two; have hl4 := hr4.len; have ho4 := hr4.one; obtain ⟨v1, v2, v3, rfl⟩ := A3o hl4; clear hT) <;> first | simp only [Option.isSome_some] | simp only [Option.isSome_none])
 refine aP 9 rfl (qM rfl) rfl ?_
 refine aP 10 rfl (pX rfl rfl) rfl ?_
 refine aP 11 rfl (pX rfl rfl) rfl ?_
 refine aP 12 rfl (pX rfl rfl) rfl ?_
 exact y127
 refine aP 9 rfl (qM rfl) rfl ?_
 refine aP 10 rfl (pX rfl rfl) rfl ?_
 refine aP 11 rfl (pX rfl rfl) rfl ?_
 refine aP 12 rfl (pX rfl rfl) rfl ?_
 refine A2 15 ?_
 refine C9 rfl ?_
 refine A2 16 ?_
 refine P3 rfl rfl rfl rfl hl4 ho4 rfl rfl zF0 zJ0 zC ?_
 refine aP 17 rfl (qA rfl) rfl ?_
 refine Z0 ?_
 (refine J8 (D1 rfl rfl rfl zR0 zL0 rfl) rfl ?_; rintro _ ⟨b1089, rfl⟩)
 (refine Y0 rfl rfl rfl rfl rfl (fun _ _ => by repeat (first | exact Sw.here | apply Sw.there)) (K4 zI0) rfl (fun u hu => List.all_eq_true.1 ho4 u hu) zL0 zR0 rfl (fun pn' cn' => ?_))
 refine A9 ?_
 refine sP (K0 rfl rfl zR0 zR0) rfl rfl ?_
 refine A4 ?_
 (obtain rfl := hu4 _ rfl; refine J7 (i + 1, [.slice tp4 tn4 tk4, .slice tq4 tm4 td4], pn', cn', es ++ [[v1, v2, v3]], G4) zP ?_ ?_)
 (dsimp only; exact ⟨by omega, hle.trans hle4, S2, os2, ss ++ [u4], hs40, hpr.1.ok, by have := hpr.1.le; omega, by have := hpr.1.ub; omega, by have := hpr.1.ln; omega, by simp [hssl], (hrs.mono hle4).snoc hr4, fun s hs => zX, hIL2, by rw [hos, hos2]; cases os2 <;> simp⟩)
 (show ks.length - (i + 1) < ks.length - i; omega)
 refine N0 ?_
 (obtain rfl : i = ks.length := zR0; rw [List.take_length] at hubi hlni; obtain ⟨hS1, hos1⟩ := hILi.fin; subst hS1; rw [hos1] at hos; replace hos : os = some ss := (by rw [hos]; simp); obtain ⟨ss', hss', hNod⟩ := hor.resolve_left (by rintro ⟨h, _⟩; rw [hos] at h; cases h); rw [hos] at hss'; cases hss'; refine X9 (cs := es.flatten) zD0 (fun G2 hle2 hsl2 hno2 => ?_); clear hno2; have hND := B8y hNod hoki zR0 hlts G2 _ nm num tk fk lb pt' pf q tks.length ct' fks.length cf ks.length cq p9 c9 es (hsi0.mono hle2) (by rw [hssl]; exact P9.frz hsl2 (hrs.mono hle2) hssl) (hrs.mono hle2); rw [hssl] at hND; refine F4 rfl hND rfl rfl (fun v G4 hle4 hh => ?_); obtain ⟨sc4, tc4, u4, rfl, hs4, hr4, hu4⟩ := hh; have hs40 := hs4; obtain ⟨tp4, tn4, tk4, tq4, tm4, td4, rfl⟩ := hs4.two; have hl4 := hr4.len; have ho4 := hr4.one; obtain ⟨v1, v2, v3, rfl⟩ := A3o hl4)
 refine B5 ?_
 refine sS rfl rfl rfl hl4 ho4 rfl ?_ (hu := by exact C6 hl4.symm)
 refine B5 ?_
 refine E9 (rC rfl (A3 rfl rfl)) (rC rfl (A3 rfl rfl)) (rT rfl) ?_
 (exact S4.mk u4 rfl hs40 hr4 hu4)
def B8F (S' : IS) (o : Option SV) (lim : Nat) : IM → Value → List A7 → Prop := fun _ v outs => ∃ bx M E pa ca ag p,
 outs = .blk bx [.slice pa ag.length ca] :: .slc pa ca 40 1 ag.length (ag.map pt) :: H5 M E ∧ v = .tuple ⟨[pt bx, .pointer p, .bool o.isSome]⟩ ∧ A0O M E S' ag ∧ ag.length ≤ lim
theorem B8G : A0O [] (fun _ => none) IS0 [] := ⟨fun b n h => (by cases h), fun b b' n h => (by cases h), fun b n h => (by cases h), .nil⟩
theorem B2u (e : Tm) (G : IM) (cells : List Value) (S' : IS) (o : Option SV) (hv : M3 e = true) (hI : V3 [] (H2 e) IS0 S' o) (hr : B7 G e cells) :
  Fn Tryz.prog 14 [.agg ⟨cells⟩] [] G (B8F S' o (E4 e)) := by
 have hl9 := hr.len
 have ho9 := hr.one
 have hsh := ((V2 e).1 hv).1
 have hcn := ((V2 e).1 hv).2
 have hsm := (A3i hv).1
 have hbc := (A24 e hsm).2
 have hbr := A3M e 1 hsh
 refine C0 Tryz.func14 rfl Tryz.ntmps14 Tryz.results14 rfl ?_
 intro w0
 refine A4 ?_
 refine sE (B6 rfl rfl) rfl (fun b3 => ?_)
 refine E1 ?_
 refine sE (B6 rfl rfl) rfl (fun b12 => ?_)
 refine A9 ?_
 refine sL (A5 rfl rfl (B3 zI0) hl9) rfl rfl ?_
 (refine F4 rfl (A6z e G cells 12 14 hsh hsm hr) rfl rfl (fun v G1 hle1 hh => ?_); obtain ⟨cs1, F1, rfl, hs1, hn1⟩ := hh; have hr1 := hs1.R.mono (E0.le _ _))
 (have hT := B8C b12 (H2 e) [] IS0 S' o G1 [] (fun _ => none) none 0 [] cs1 none hI hbr (by simp; omega) hr1 rfl B8G; refine B3m 40 1 ?_; refine A3U (List.reverse_perm [_, _, _]).symm ?_; simp only [List.reverse_cons, List.reverse_nil, List.cons_append, List.nil_append]; refine R0 [_] rfl hT rfl rfl rfl (fun v G2 outs hle2 hh => ?_); obtain ⟨M2, E2, pa2, ca2, ag2, p2, rfl, rfl, hst2, hsub2, hlim2, hres⟩ := hh; simp only [List.cons_append, List.nil_append])
 refine Z8 ?_
 refine A3f (outs := .blk b12 [.slice pa2 ag2.length ca2] :: .slc pa2 ca2 40 1 ag2.length (ag2.map pt) :: H5 M2 E2) (rT rfl) (rT rfl) (rT rfl) zE0 ?_
 (exact ⟨_, M2, E2, pa2, ca2, ag2, p2, rfl, rfl, hst2, by simp at hlim2; omega⟩)
theorem B8H {M : VM} {B : BV} {L ts : List SV} {ag : List Nat} (h : RAs M L ag) (hd : A16 B L ts) : ∀ {i : Nat} (hi : i < ag.length), ∃ s t, K9 M s ag[i] ∧ Q9 B s t ∧ ts[i]? = some t := by
 induction h generalizing ts with
 | nil => intro i hi; cases hi
 | cons h1 _ ih =>
  intro i hi
  cases hd with
  | cons d1 d2 =>
   cases i with
   | zero => exact ⟨_, _, h1, d1, rfl⟩
   | succ i => exact ih d2 (Nat.lt_of_succ_lt_succ hi)
theorem A6C : ∀ {ts : List SV} {i : Nat} {us : List Ty} {t : SV} {u : Ty}, A0m (ts.take i) = some us → ts[i]? = some t → S9 4 t = some u → A0m (ts.take (i + 1)) = some (us ++ [u])
 | [], _, _, _, _, _, h, _ => by simp at h
 | s :: ts, 0, us, t, u, h, h2, h3 => by
  simp only [List.take_zero] at h
  cases h
  simp only [List.getElem?_cons_zero, Option.some.injEq] at h2
  subst h2
  simp [A0m, h3]
 | s :: ts, i + 1, us, t, u, h, h2, h3 => by
  rw [List.take_succ_cons, A0m] at h
  rw [List.take_succ_cons, A0m]
  cases ha : S9 4 s with
  | none => rw [ha] at h; cases h
  | some a =>
   rw [ha] at h
   cases hb : A0m (ts.take i) with
   | none => rw [hb] at h; cases h
   | some bs =>
    rw [hb] at h
    cases h
    have := A6C hb (by simpa using h2) h3
    simp only [this]
    rfl
theorem A6D : ∀ {ts : List SV} {i : Nat} {t : SV}, ts[i]? = some t → S9 4 t = none → A0m ts = none
 | [], _, _, h, _ => by simp at h
 | s :: ts, 0, t, h, h2 => by
  simp only [List.getElem?_cons_zero, Option.some.injEq] at h
  subst h
  rw [A0m, h2]
 | s :: ts, i + 1, t, h, h2 => by
  rw [A0m]
  cases ha : S9 4 s with
  | none => rfl
  | some a =>
   have := A6D (ts := ts) (by simpa using h) h2
   simp only [this]
def A0Q (r : Option (Tm × Ty)) : IM → Value → List A7 → Prop := N8 fun G' v => ∃ cx ct u, v = .tuple ⟨[.agg ⟨cx⟩, .agg ⟨ct⟩, .bool r.isSome]⟩ ∧ B7 G' ((r.map Prod.fst).getD I8) cx ∧ C7 G' u ct
theorem A0Q.no {r : Option (Tm × Ty)} {G' : IM} (h : r = none) : A0Q r G' (.tuple ⟨[.agg ⟨[.int .i64 0, .string ⟨⟨[]⟩⟩, .int .i64 0, .int .i64 0, .slice none 0 0, .int .i64 0, .slice none 0 0, .int .i64 0, .slice none 0 0]⟩, .agg ⟨[.int .i64 0, .slice none 0 0]⟩, .bool false]⟩) [] := by
 subst h
 exact ⟨rfl, _, _, _, rfl, R7 _, L9 _ ⟨by omega, by omega⟩⟩
theorem A0Q.yes {r : Option (Tm × Ty)} {x : Tm} {t u : Ty} {G' : IM} {cx ct : List Value} (h : r = some (x, t)) (hx : B7 G' x cx) (hu : C7 G' u ct) : A0Q r G' (.tuple ⟨[.agg ⟨cx⟩, .agg ⟨ct⟩, .bool true]⟩) [] := by
 subst h
 exact ⟨rfl, _, _, _, rfl, hx, hu⟩
theorem A1j.cs {e : Tm} {r : Option (Tm × Ty)} (h : A1j e r) : (M3 e = false ∧ r = none) ∨ (M3 e = true ∧ r = none ∧ ∃ S, V3 [] (H2 e) IS0 S none) ∨
  (M3 e = true ∧ ∃ S s ts, V3 [] (H2 e) IS0 S (some s) ∧ S.ok ∧ S.L.length ≤ 30 ∧ A16 S.B S.L ts ∧ (A0m ts = none → r = none) ∧
   ∀ l, A0m ts = some l → l.length = (K8 (H2 e)).length ∧ (∀ u ∈ l, H9 u = true) ∧ r = (U7 (S6 (H2 e) l)).map fun t => (S6 (H2 e) l, t)) := by
 have hlm : M3 e = true → A02 (H2 e) ≤ 30 := fun hv => by
  have h1 := A8q _ (A3M e 1 ((V2 e).1 hv).1)
  have h2 := A7C (H2 e)
  have h3 := (A24 e (A3i hv).1).2
  have h4 := ((V2 e).1 hv).2
  omega
 cases h with
 | bad h => exact .inl ⟨h, rfl⟩
 | fail h h2 => exact .inr (.inl ⟨h, rfl, _, h2⟩)
 | deep h1 h2 h3 h4 h5 h6 =>
  have h7 := h4.ln
  have h8 := hlm h1
  exact .inr (.inr ⟨h1, _, _, _, h2, h3, by simp at h7; omega, h5, fun _ => rfl, fun l hl => (by rw [h6] at hl; cases hl)⟩)
 | fine h1 h2 h3 h4 h5 h6 h7 h8 =>
  have h9 := h4.ln
  have h10 := hlm h1
  exact .inr (.inr ⟨h1, _, _, _, h2, h3, by simp at h9; omega, h5, fun hn => (by rw [h6] at hn; cases hn), fun l hl => (by rw [h6] at hl; cases hl; exact ⟨h7, h8, rfl⟩)⟩)
theorem B8I (e : Tm) (r : Option (Tm × Ty)) (G : IM) (cells : List Value) (hR : A1j e r) (hr : B7 G e cells) : Fn Tryz.prog 6 [.agg ⟨cells⟩] [] G (A0Q r) := by
 have hl9 := hr.len
 have ho9 := hr.one
 have hV := A5R e G cells hr
 rcases hR.cs with ⟨hv, hr0⟩ | ⟨hv, hr0, S, hI⟩ | ⟨hv, S, s, ts, hI, hok, hLn, hD, hno, hyes⟩ <;> rw [hv] at hV
 ·refine C0 Tryz.func6 rfl Tryz.ntmps6 Tryz.results6 rfl ?_
  intro w0
  refine A4 ?_
  refine sE (B6 rfl rfl) rfl (fun b3 => ?_)
  refine sE (A6 rfl) rfl (fun b4 => ?_)
  refine sE (A6 rfl) rfl (fun b5 => ?_)
  refine A9 ?_
  refine sL (A5 rfl rfl (B3 zI0) hl9) rfl rfl ?_
  refine H4 rfl (hV) rfl rfl ?_
  refine J0 ?_
  refine E9 (rC rfl (A3 rfl rfl)) (rC rfl (A3 rfl rfl)) (rT rfl) ?_
  (exact A0Q.no hr0)
 ·refine C0 Tryz.func6 rfl Tryz.ntmps6 Tryz.results6 rfl ?_
  intro w0
  refine A4 ?_
  refine sE (B6 rfl rfl) rfl (fun b3 => ?_)
  refine sE (A6 rfl) rfl (fun b4 => ?_)
  refine sE (A6 rfl) rfl (fun b5 => ?_)
  refine A9 ?_
  refine sL (A5 rfl rfl (B3 zI0) hl9) rfl rfl ?_
  refine H4 rfl (hV) rfl rfl ?_
  refine E1 ?_
  refine sL (A5 rfl rfl (B3 zI0) hl9) rfl rfl ?_
  (refine R0 [_, _, _] rfl (B2u e G cells S none hv hI hr) rfl rfl rfl (fun v G1 outs hle1 hh => ?_); obtain ⟨bx, M, E, pa, ca, ag, p, rfl, rfl, hst, hagl⟩ := hh; simp only [List.cons_append, List.nil_append])
  refine A3V ?_
  refine E9 (rC rfl (A3 rfl rfl)) (rC rfl (A3 rfl rfl)) (rT rfl) ?_
  (exact A0Q.no hr0)
 ·have hsh := ((V2 e).1 hv).1
  have hcn := ((V2 e).1 hv).2
  have hsm := (A3i hv).1
  obtain ⟨hbs, hbc⟩ := A24 e hsm
  refine C0 Tryz.func6 rfl Tryz.ntmps6 Tryz.results6 rfl ?_
  intro w0
  refine A4 ?_
  refine sE (B6 rfl rfl) rfl (fun b3 => ?_)
  refine sE (A6 rfl) rfl (fun b4 => ?_)
  refine sE (A6 rfl) rfl (fun b5 => ?_)
  refine A9 ?_
  refine sL (A5 rfl rfl (B3 zI0) hl9) rfl rfl ?_
  refine H4 rfl (hV) rfl rfl ?_
  refine E1 ?_
  refine sL (A5 rfl rfl (B3 zI0) hl9) rfl rfl ?_
  (refine R0 [_, _, _] rfl (B2u e G cells S (some s) hv hI hr) rfl rfl rfl (fun v G1 outs hle1 hh => ?_); obtain ⟨bx, M, E, pa, ca, ag, p, rfl, rfl, hst, hagl⟩ := hh; simp only [List.cons_append, List.nil_append]; have hal := hst.ar.len; have hdl := hD.len)
  refine A3V ?_
  refine sQ (K6 rfl) rfl ?_
  refine A9 ?_
  refine C2 ?_
  (refine A2c (cs := ag.map pt) zD0 (fun G2 hle2 hsl2 hno2 => ?_); clear hno2; refine X1 25 2 ?_; refine L8 (fun (x : Nat × Option Addr × Nat × List Ty × List (List Value) × IM) => ⟨[(36, .int .i64 x.1), (35, .int .i64 (ag.length : Int)), (34, .slice pa ag.length ca), (8, .slice x.2.1 x.2.2.2.1.length x.2.2.1), (4, .bool false), (3, .pointer (some ⟨b5, 0, none⟩)), (2, .pointer (some ⟨b4, 0, none⟩)), (1, .pointer (some ⟨b3, 0, none⟩))], .slc x.2.1 x.2.2.1 25 2 x.2.2.2.1.length x.2.2.2.2.1.flatten :: .blk b5 [.int .i64 0, .slice none 0 0] :: .blk b4 [.int .i64 0, .string ⟨⟨[]⟩⟩, .int .i64 0, .int .i64 0, .slice none 0 0, .int .i64 0, .slice none 0 0, .int .i64 0, .slice none 0 0] :: .blk b3 cells :: H5 M E, x.2.2.2.2.2⟩) (fun x => x.1 ≤ ag.length ∧ B9 G2 x.2.2.2.2.2 ∧ D9 x.2.2.2.2.2 x.2.2.2.1 x.2.2.2.2.1 ∧ x.2.2.2.1.length = x.1 ∧ A0m (ts.take x.1) = some x.2.2.2.1) (fun x => ag.length - x.1) (0, none, 0, [], [], G2) ?_ ?_ ?_)
  (simp only [I9]; exact F8)
  (exact ⟨Nat.zero_le _, B9.refl _, by simp [D9], rfl, rfl⟩)
  (rintro ⟨(i : Nat), pn, cn, us, es, Gi⟩ ⟨hi, hle, hus, hul, hsu⟩; simp only [] at hi hle hus hul hsu ⊢; have hri := hr.mono (hle1.trans (hle2.trans hle)); have hsl3 := hsl2.mono hle)
  refine A4 ?_
  refine sB (N5 rfl rfl) rfl rfl (fun h66 => ?_) (fun h66 => ?_)
  refine B0 ?_
  refine C2 ?_
  refine A4 ?_
  (have hil : i < ag.length := zR0; obtain ⟨bH, oH, rfl, hgH, hatH⟩ := hsl3.at1 zR0; obtain ⟨s1, t1, hrs1, hd1, ht1⟩ := B8H hst.ar hD hil; refine sP (B8 (j := i) rfl rfl rfl hil) rfl rfl ?_)
  refine sL (I7 rfl rfl (hatH _ i (pt ag[i]) (by rw [List.getElem?_map, List.getElem?_eq_getElem hil]; rfl))) rfl rfl ?_
  refine A9 ?_
  (refine R0 [_, _, _, _] rfl (B8n M S.B E hst.v t1 s1 ag[i] 4 1 Gi hd1 hrs1 rfl zQ0) rfl rfl rfl (fun v G3 outs hle3 hh => ?_); obtain ⟨rfl, ct, u, rfl, hru, hu⟩ := hh; simp only [List.cons_append, List.nil_append]; obtain ⟨pu, cu, eu, rfl, _⟩ := hru.open; rcases hs4 : S9 4 t1 with _ | u1)
  refine C1 ?_
  refine sE (A6 rfl) rfl (fun b89 => ?_)
  refine A3V ?_
  refine E9 (rC rfl (A3 rfl rfl)) (rC rfl (A3 rfl rfl)) (rT rfl) ?_
  (exact A0Q.no (hno (A6D ht1 hs4)))
  refine C1 ?_
  refine sE (A6 rfl) rfl (fun b123 => ?_)
  refine V0 ?_
  (refine J8 (D1 rfl rfl rfl zR0 zL0 rfl) rfl ?_; rintro _ ⟨b141, rfl⟩)
  (obtain rfl := hu u1 hs4; refine Y0 rfl rfl rfl rfl rfl (fun _ _ => by repeat (first | exact Sw.here | apply Sw.there)) (K4 zI0) rfl zK0 zL0 zR0 rfl (fun pn' cn' => ?_))
  refine A8 ?_
  refine sP (K0 rfl rfl zR0 zR0) rfl rfl ?_
  refine A4 ?_
  (refine J7 (i + 1, pn', cn', us ++ [u], es ++ [[.int .i64 u.k, .slice pu u.ks.length cu]], G3) zL ?_ ?_)
  (dsimp only; exact ⟨by omega, hle.trans hle3, (hus.mono hle3).snoc hru, by simp [hul], A6C hsu ht1 hs4⟩)
  (show ag.length - (i + 1) < ag.length - i; omega)
  refine M7 ?_
  refine sL (A5 rfl rfl (B3 zI0) hl9) rfl rfl ?_
  (obtain rfl : i = ag.length := zR0; have htk : ts.take ag.length = ts := List.take_of_length_le zR0; rw [htk] at hsu; obtain ⟨hy1, hy2, hy3⟩ := hyes us hsu; refine F4 rfl (A6z e Gi cells 12 14 hsh hsm hri) rfl rfl (fun v G4 hle4 hh => ?_); obtain ⟨cb, Fb, rfl, hsb, hnb⟩ := hh; have hrb := hsb.R.mono (E0.le _ _))
  refine D8 ?_
  (refine X9 (cs := es.flatten) zD0 (fun G5 hle5 hsl5 hno5 => ?_); clear hno5; have hus5 := hus.mono (hle4.trans hle5); refine A1l rfl (B40 (H2 e) us G5 cb pn cn es zR0 (fun w hw => (A2R (hy2 w hw)).1.small) zR0 (hrb.mono hle5) (D7.of hsl5 hus5.len hus5.all (fun e he => (hus5.each e he).2)) hus5) rfl rfl (fun v G6 outs hle6 hh => ?_); obtain ⟨rfl, cx, p6, c6, e6, rfl, hrx, _, _⟩ := hh; obtain ⟨x, hx⟩ : ∃ x, S6 (H2 e) us = x := ⟨_, rfl⟩; rw [hx] at hrx hy3; simp only [List.nil_append]; have hlx := hrx.len; have hox := hrx.one)
  refine C1 ?_
  refine sE (A6 rfl) rfl (fun b172 => ?_)
  refine Q1 rfl rfl rfl hlx hox rfl zF0 (by exact C6 (hlx.trans rfl).symm) ?_
  refine A8 ?_
  refine sL (A5 rfl rfl (B3 zI0) hlx) rfl rfl ?_
  (refine F4 rfl (B6V x G6 cx hrx) rfl rfl (fun v7 G7 hle7 hh => ?_); obtain ⟨cty, uty, rfl, hrty, _⟩ := hh; obtain ⟨qt, dt, et2, rfl, _⟩ := hrty.open; have hrx7 := hrx.mono hle7; rcases hT : U7 x with _ | ty7)
  refine C1 ?_
  refine sE (A6 rfl) rfl (fun b184 => ?_)
  refine A2d ?_
  refine E9 (rC rfl (A3 rfl rfl)) (rC rfl (A3 rfl rfl)) (rT rfl) ?_
  (exact A0Q.no (by rw [hy3, hT]; rfl))
  refine C1 ?_
  refine sE (A6 rfl) rfl (fun b213 => ?_)
  refine J0 ?_
  refine D3 D4 rfl ?_
  refine J3 (i := 0) (l' := [tt,ff,ff,ff,ff,ff]) rfl C8 (A5 rfl rfl (B3 zI0) hlx) rfl zP0 rfl rfl ?_
  refine aL 2 rfl (A3 rfl rfl) rfl ?_
  refine A2 1 ?_
  (refine H1 rfl rfl (A32 x G7 cx (A3i (A5i (by rw [hT]; rfl))).1 hrx7) rfl rfl rfl (fun v8 G8 hle8 hh => ?_); obtain ⟨cw, Fw, rfl, hsw, hnw⟩ := hh; have hrw := hsw.R.mono (E0.le _ _); have hlw := hrw.len; have how := hrw.one)
  refine A2 3 ?_
  refine oS rfl rfl rfl rfl hlw how rfl rfl ?_ (hu := by exact C6 hlw.symm)
  refine A2 4 ?_
  refine C9 rfl ?_
  refine aP 5 rfl (qA rfl) rfl ?_
  refine C1 ?_
  refine E9 (rC rfl (A5 rfl rfl (B3 zI0) hlw)) (rC rfl (A3 rfl rfl)) (rT rfl) ?_
  (exact A0Q.yes (by rw [hy3, hT]; rfl) hrw (hrty.mono hle8))
theorem A1V.leaf {G : IM} {k : Int} {nm : ByteArray} {num x : Int} {ks : List Tm} {p : Option Addr} {c : Nat} {F : List Nat} (h : A1V G ks p c F) (hk : H6 k) (hnum : H6 num) (hx : H6 x) :
  Q3 G (.mk k nm num (.mk x []) B4 0 ks) [.int .i64 k, .string nm, .int .i64 num, .int .i64 x, .slice none 0 0, .int .i64 0, .slice none 0 0, .int .i64 0, .slice p ks.length c] F := by
 obtain ⟨es, Fs, h1, h2, rfl, h4⟩ := h
 have hT : R9 G (.mk x []) [.int .i64 x, .slice none 0 0] [] := by
  simp only [R9, Q2]
  exact ⟨none, 0, [], [], rfl, hx, D7.nil _ _, ⟨rfl, rfl⟩, rfl, by simp [K5]⟩
 simp only [Q3]
 exact ⟨[.int .i64 x, .slice none 0 0], [.int .i64 0, .slice none 0 0], p, c, es, [], [], Fs, rfl, hk, hnum, ⟨by omega, by omega⟩, hT, B8c G, h1, h2, rfl, h4⟩
theorem B8J {k : Int} {nm : ByteArray} {num : Int} {ty fr : Ty} {lb : Int} {ks : List Tm} (h : k = 13 ∨ k = 14) (h0 : 0 < ks.length) : H2 (.mk k nm num ty fr lb ks) = H2 ks[0] := by
 cases ks with
 | nil => simp at h0
 | cons x xs => rw [H2, if_pos h, I0]; rfl
theorem B8K {k : Int} {nm : ByteArray} {num : Int} {ty fr : Ty} {lb : Int} {ks : List Tm} {x : Int} (h : ¬(k = 13 ∨ k = 14)) (hx : x = if k = 5 then 1 else 0) : H2 (.mk k nm num ty fr lb ks) = .mk k nm num (.mk x []) B4 0 (I0 ks) := by
 rw [H2, if_neg h, hx]
 by_cases h5 : k = 5
 ·rw [if_pos h5, if_pos h5]; rfl
 ·rw [if_neg h5, if_neg h5]; rfl
theorem B2v (D N : Int) : ∀ (t : Tm) (d : Int) (G : IM) (cells : List Value), L6 D N t d = true → t.small → B7 G t cells →
  Fn Tryz.prog 21 [.agg ⟨cells⟩] [] G (A4K (H2 t) G) := by
 refine Tm.ind fun k nm num ty fr lb ks ih d G cells hv hts hr => ?_
 have hone := hr.one
 obtain ⟨hv1, hv2, hv3, hv4⟩ := A0b hv
 have hvk := (A2N D N ks _).1 hv4
 have har := (X5.1 hv3).1
 have hk0 : k = 13 ∨ k = 14 → 0 < ks.length := by
  rintro (rfl | rfl)
  ·rw [show E8 13 = 1 from rfl] at har; omega
  ·rw [show E8 14 = 1 from rfl] at har; omega
 simp only [Tm.small] at hts
 obtain ⟨hnm, hty', hfr', hsm, hks⟩ := hts
 obtain ⟨tk, tks⟩ := ty
 obtain ⟨fk, fks⟩ := fr
 obtain ⟨pt, ct, pf, cf, p, c, es, rfl, hk, hnum, hlb, hty, hfr, hsl, hkl⟩ := hr.open9
 have hn := hsl.le
 have hlen : (I0 ks).length = ks.length := by rw [A3A, List.length_map]
 have hget : ∀ i (h : i < ks.length) (h' : i < (I0 ks).length), (I0 ks)[i] = H2 ks[i] := fun i h h' => by simp [A3A]
 have hB1 := fun h h0 => @B8J k nm num (.mk tk tks) (.mk fk fks) lb ks h h0
 have hB2 := fun x h hx => @B8K k nm num (.mk tk tks) (.mk fk fks) lb ks x h hx
 refine C0 Tryz.func21 rfl Tryz.ntmps21 Tryz.results21 rfl ?_
 intro w0
 refine A4 ?_
 refine sE (B6 rfl rfl) rfl (fun b3 => ?_)
 refine sE (A6 rfl) rfl (fun b4 => ?_)
 refine B0 ?_
 refine sB (qE rfl rfl) rfl rfl (fun h12 => ?_) (fun h12 => ?_)
 refine O3 ?_
 exact y130
 refine C1 ?_
 refine sB (qE rfl rfl) rfl rfl (fun h38 => ?_) (fun h38 => ?_)
 refine E1 ?_
 exact y130
 refine J0 ?_
 refine sE (A6 rfl) rfl (fun b72 => ?_)
 refine E1 ?_
 refine sB (qE rfl rfl) rfl rfl (fun h81 => ?_) (fun h81 => ?_)
 refine A4 ?_
 (show L3 _ _ (.cond (.tmp 27) _ _) _ _; refine A0V (fun (x : Int) => ⟨[(3, .pointer (some ⟨b72, 0, none⟩)), (1, .pointer (some ⟨b3, 0, none⟩)), (2, .pointer (some ⟨b4, 0, none⟩))], [.blk b72 [.int .i64 k, .string nm, .int .i64 num, .int .i64 x, .slice none 0 0, .int .i64 0, .slice none 0 0, .int .i64 0, .slice none 0 0], .blk b4 [.int .i64 0, .string ⟨⟨[]⟩⟩, .int .i64 0, .int .i64 0, .slice none 0 0, .int .i64 0, .slice none 0 0, .int .i64 0, .slice none 0 0], .blk b3 [.int .i64 k, .string nm, .int .i64 num, .int .i64 tk, .slice pt tks.length ct, .int .i64 fk, .slice pf fks.length cf, .int .i64 lb, .slice p ks.length c]], G⟩) (fun x => x = if k = 5 then 1 else 0) ?_ ?_)
 refine A4 ?_
 refine H4 rfl ((A2M _)) rfl rfl ?_
 refine C1 ?_
 refine O7 1 (I6 zC0 zV) (if_pos zR0).symm
 (intro tx htx; have hxi : H6 tx := (by rw [htx]; split <;> exact ⟨by omega, by omega⟩); have hB3 := hB2 tx zR0 htx)
 refine A9 ?_
 refine C2 ?_
 (refine X1 28 9 ?_; refine L8 (fun (x : Nat × Option Addr × Nat × List (List Value) × List Nat × IM) => ⟨[(4, .int .i64 x.1), (3, .pointer (some ⟨b72, 0, none⟩)), (1, .pointer (some ⟨b3, 0, none⟩)), (2, .pointer (some ⟨b4, 0, none⟩))], [.blk b72 [.int .i64 k, .string nm, .int .i64 num, .int .i64 tx, .slice none 0 0, .int .i64 0, .slice none 0 0, .int .i64 0, .slice x.2.1 x.1 x.2.2.1], .slc x.2.1 x.2.2.1 28 9 x.1 x.2.2.2.1.flatten, .blk b4 [.int .i64 0, .string ⟨⟨[]⟩⟩, .int .i64 0, .int .i64 0, .slice none 0 0, .int .i64 0, .slice none 0 0, .int .i64 0, .slice none 0 0], .blk b3 [.int .i64 k, .string nm, .int .i64 num, .int .i64 tk, .slice pt tks.length ct, .int .i64 fk, .slice pf fks.length cf, .int .i64 lb, .slice p ks.length c]], x.2.2.2.2.2⟩) (fun x => x.1 ≤ ks.length ∧ B9 G x.2.2.2.2.2 ∧ P1 (E0 x.2.2.2.2.2 G) ((I0 ks).take x.1) x.2.2.2.1 x.2.2.2.2.1 ∧ x.2.2.2.2.1.Nodup) (fun x => ks.length - x.1) (0, none, 0, [], [], G) ?_ ?_ ?_)
 (simp only [I9]; exact F8)
 exact ⟨by simp, B9.refl _, by simp [P1], by simp⟩
 (rintro ⟨i, pn, cn, es', F, Gi⟩ ⟨hi, hle, hst, hnd⟩; simp only [] at hi hle hst hnd ⊢; replace hsl := hsl.mono hle; replace hkl := hkl.mono hle)
 refine B0 ?_
 refine sB (N5 rfl rfl) rfl rfl (fun h111 => ?_) (fun h111 => ?_)
 refine A9 ?_
 refine C2 ?_
 (obtain ⟨b, o, e, rfl, hl, hat, hre, hgb⟩ := hsl.kidTm hkl (i := i) zR0 zR0; have hone := hre.one; refine D3 D4 rfl ?_)
 refine J4 (i := 0) (l' := [tt,ff,ff,ff,ff,ff,ff,ff,ff,ff,ff,ff]) rfl C8 (C3 rfl) rfl zP0 rfl rfl ?_
 refine aL 1 rfl (F0 rfl rfl) rfl ?_
 refine aP 2 rfl (C3 rfl) rfl ?_
 refine aL 3 rfl (F0 rfl rfl) rfl ?_
 refine aP 4 rfl (qM rfl) rfl ?_
 refine aP 5 rfl (B8 rfl rfl rfl zR0) rfl ?_
 refine aL 6 rfl (A5 rfl rfl (hat _) hl) rfl ?_
 refine A2 7 ?_
 (refine H1 rfl rfl (ih ks[i] (List.getElem_mem zR0) _ _ _ (hvk i zR0) (Tm.smallL_mem hks _ (List.getElem_mem zR0)) hre) rfl rfl rfl (fun v G3 hle3 hh => ?_); obtain ⟨cells', F', rfl, hs', hnd'⟩ := hh; rw [← hget i zR0 zR0] at hs'; obtain ⟨qt, dt, et', qf, df, ef', q3, d3, es3, rfl, _⟩ := hs'.R.open)
 refine A2 8 ?_
 (refine D2 rfl (D1 rfl rfl rfl zR0 zL0 rfl) rfl rfl ?_; rintro _ ⟨b130, rfl⟩)
 refine A2 9 ?_
 refine P0 rfl rfl rfl rfl rfl rfl (fun _ _ => by repeat (first | exact Sw.here | apply Sw.there)) (K4 zI0) rfl zK0 zL0 zR0 rfl rfl zR (fun pn' cn' => ?_)
 refine aP 10 rfl (C3 rfl) rfl ?_
 refine A2 11 ?_
 refine T7 rfl rfl rfl rfl rfl rfl rfl rfl zP0 zF0 (by rfl) ?_
 refine A8 ?_
 refine sP (K0 rfl rfl zR0 zR0) rfl rfl ?_
 refine A4 ?_
 refine J7 (i + 1, pn', cn', es' ++ [[.int .i64 (I0 ks)[i].k, .string (I0 ks)[i].nm, .int .i64 (I0 ks)[i].num, .int .i64 (I0 ks)[i].ty.k, .slice qt (I0 ks)[i].ty.ks.length dt, .int .i64 (I0 ks)[i].fr.k, .slice qf (I0 ks)[i].fr.ks.length df, .int .i64 (I0 ks)[i].lb, .slice q3 (I0 ks)[i].ks.length d3]], F ++ F', G3) ?_ ?_ ?_
 (simp only [I9]; exact F8)
 exact ⟨by omega, hle.trans hle3, P1.step hst hnd hle hle3 zR0 hs' hnd'⟩
 (show ks.length - (i + 1) < ks.length - i; omega)
 exact y133
 refine A4 ?_
 (show L3 _ _ (.cond (.tmp 27) _ _) _ _; refine A0V (fun (x : Int) => ⟨[(3, .pointer (some ⟨b72, 0, none⟩)), (1, .pointer (some ⟨b3, 0, none⟩)), (2, .pointer (some ⟨b4, 0, none⟩))], [.blk b72 [.int .i64 k, .string nm, .int .i64 num, .int .i64 x, .slice none 0 0, .int .i64 0, .slice none 0 0, .int .i64 0, .slice none 0 0], .blk b4 [.int .i64 0, .string ⟨⟨[]⟩⟩, .int .i64 0, .int .i64 0, .slice none 0 0, .int .i64 0, .slice none 0 0, .int .i64 0, .slice none 0 0], .blk b3 [.int .i64 k, .string nm, .int .i64 num, .int .i64 tk, .slice pt tks.length ct, .int .i64 fk, .slice pf fks.length cf, .int .i64 lb, .slice p ks.length c]], G⟩) (fun x => x = if k = 5 then 1 else 0) ?_ ?_)
 refine A4 ?_
 refine O7 0 (I6 zC0 zV) (if_neg zR0).symm
 (intro tx htx; have hxi : H6 tx := (by rw [htx]; split <;> exact ⟨by omega, by omega⟩); have hB3 := hB2 tx zR0 htx)
 refine A9 ?_
 refine C2 ?_
 (refine X1 28 9 ?_; refine L8 (fun (x : Nat × Option Addr × Nat × List (List Value) × List Nat × IM) => ⟨[(4, .int .i64 x.1), (3, .pointer (some ⟨b72, 0, none⟩)), (1, .pointer (some ⟨b3, 0, none⟩)), (2, .pointer (some ⟨b4, 0, none⟩))], [.blk b72 [.int .i64 k, .string nm, .int .i64 num, .int .i64 tx, .slice none 0 0, .int .i64 0, .slice none 0 0, .int .i64 0, .slice x.2.1 x.1 x.2.2.1], .slc x.2.1 x.2.2.1 28 9 x.1 x.2.2.2.1.flatten, .blk b4 [.int .i64 0, .string ⟨⟨[]⟩⟩, .int .i64 0, .int .i64 0, .slice none 0 0, .int .i64 0, .slice none 0 0, .int .i64 0, .slice none 0 0], .blk b3 [.int .i64 k, .string nm, .int .i64 num, .int .i64 tk, .slice pt tks.length ct, .int .i64 fk, .slice pf fks.length cf, .int .i64 lb, .slice p ks.length c]], x.2.2.2.2.2⟩) (fun x => x.1 ≤ ks.length ∧ B9 G x.2.2.2.2.2 ∧ P1 (E0 x.2.2.2.2.2 G) ((I0 ks).take x.1) x.2.2.2.1 x.2.2.2.2.1 ∧ x.2.2.2.2.1.Nodup) (fun x => ks.length - x.1) (0, none, 0, [], [], G) ?_ ?_ ?_)
 (simp only [I9]; exact F8)
 exact ⟨by simp, B9.refl _, by simp [P1], by simp⟩
 (rintro ⟨i, pn, cn, es', F, Gi⟩ ⟨hi, hle, hst, hnd⟩; simp only [] at hi hle hst hnd ⊢; replace hsl := hsl.mono hle; replace hkl := hkl.mono hle)
 refine B0 ?_
 refine sB (N5 rfl rfl) rfl rfl (fun h191 => ?_) (fun h191 => ?_)
 refine A9 ?_
 refine C2 ?_
 (obtain ⟨b, o, e, rfl, hl, hat, hre, hgb⟩ := hsl.kidTm hkl (i := i) zR0 zR0; have hone := hre.one; refine D3 D4 rfl ?_)
 refine J4 (i := 0) (l' := [tt,ff,ff,ff,ff,ff,ff,ff,ff,ff,ff,ff]) rfl C8 (C3 rfl) rfl zP0 rfl rfl ?_
 refine aL 1 rfl (F0 rfl rfl) rfl ?_
 refine aP 2 rfl (C3 rfl) rfl ?_
 refine aL 3 rfl (F0 rfl rfl) rfl ?_
 refine aP 4 rfl (qM rfl) rfl ?_
 refine aP 5 rfl (B8 rfl rfl rfl zR0) rfl ?_
 refine aL 6 rfl (A5 rfl rfl (hat _) hl) rfl ?_
 refine A2 7 ?_
 (refine H1 rfl rfl (ih ks[i] (List.getElem_mem zR0) _ _ _ (hvk i zR0) (Tm.smallL_mem hks _ (List.getElem_mem zR0)) hre) rfl rfl rfl (fun v G3 hle3 hh => ?_); obtain ⟨cells', F', rfl, hs', hnd'⟩ := hh; rw [← hget i zR0 zR0] at hs'; obtain ⟨qt, dt, et', qf, df, ef', q3, d3, es3, rfl, _⟩ := hs'.R.open)
 refine A2 8 ?_
 (refine D2 rfl (D1 rfl rfl rfl zR0 zL0 rfl) rfl rfl ?_; rintro _ ⟨b210, rfl⟩)
 refine A2 9 ?_
 refine P0 rfl rfl rfl rfl rfl rfl (fun _ _ => by repeat (first | exact Sw.here | apply Sw.there)) (K4 zI0) rfl zK0 zL0 zR0 rfl rfl zR (fun pn' cn' => ?_)
 refine aP 10 rfl (C3 rfl) rfl ?_
 refine A2 11 ?_
 refine T7 rfl rfl rfl rfl rfl rfl rfl rfl zP0 zF0 (by rfl) ?_
 refine A8 ?_
 refine sP (K0 rfl rfl zR0 zR0) rfl rfl ?_
 refine A4 ?_
 refine J7 (i + 1, pn', cn', es' ++ [[.int .i64 (I0 ks)[i].k, .string (I0 ks)[i].nm, .int .i64 (I0 ks)[i].num, .int .i64 (I0 ks)[i].ty.k, .slice qt (I0 ks)[i].ty.ks.length dt, .int .i64 (I0 ks)[i].fr.k, .slice qf (I0 ks)[i].fr.ks.length df, .int .i64 (I0 ks)[i].lb, .slice q3 (I0 ks)[i].ks.length d3]], F ++ F', G3) ?_ ?_ ?_
 (simp only [I9]; exact F8)
 exact ⟨by omega, hle.trans hle3, P1.step hst hnd hle hle3 zR0 hs' hnd'⟩
 (show ks.length - (i + 1) < ks.length - i; omega)
 exact y133
def B9Q (t : Tm) : Nat := if M3 t = true then E4 t else 0
def B9R (ts : List Ty) : IM → Value → List A7 → Prop := N8 fun G' v => ∃ p c es, v = .slice p ts.length c ∧ D7 G' p ts.length c 2 es ∧ D9 G' ts es
def dfL (k : Ty → Bool) (ts : List Ty) (j : Nat) : List Ty := (ts.take j).filter k ++ ts.drop ((ts.take j).filter k).length
def B9S (t : Ty) : List Ty := if H9 t = true then A7F 4 t else []
def B9T (l : List Tm) : List Tm := (l.find? A8c).toList
def B9U (ts : List Tm) : IM → Value → List A7 → Prop := N8 fun G' v => ∃ p c es, v = .slice p ts.length c ∧ D7 G' p ts.length c 9 es ∧ F9 G' ts es
end Gw
end Go.Proofs.YtbdacdnffkhgeaaGreatDoor
