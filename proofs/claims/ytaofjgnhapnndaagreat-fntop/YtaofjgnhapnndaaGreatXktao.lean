/- Texts that the row needs: words on memory and rows, the contracts of the functions it reaches, and the plain lemmas on what they compute. -/
import Derived.Test.YtaofjgnhapnndaaGreatXktan
open Go.Proofs.YtaofjgnhapnndaaGreatFkt
namespace Go.Proofs.YtaofjgnhapnndaaGreat.Q
open Go.RowKit Go.Proofs.YtaofjgnhapnndaaGreatW.PrintWords Go.Proofs.YtaofjgnhapnndaaGreatW.PrintLast Go.Proofs.YtaofjgnhapnndaaGreatW.PrintMore
set_option linter.unusedVariables false
set_option linter.unusedSimpArgs false
mutual
noncomputable def dE.l0 : Nat → List (S31) → Int → List ByteArray → List (S52) → Option (Bool)
 | 0, _, _, _, _ => none
 | k + 1, b, a, d, c => if a < (b.length : Int) then (if 0 ≤ a then (if ((dA b a).f0) = 1 then ((p8.f k d c ((dA b a).f1) ((dA b a).f2)).bind fun e => ((dC.f k d c ((dA b a).f1) ((dA b a).f2)).bind fun g => (dE.j1 k b a e.2.2 g.2.2 d c e.1 e.2.1 g.1 g.2.1))) else (if ((dA b a).f0) = 2 then ((eG.f k d c ((dA b a).f1) ((dA b a).f2)).bind fun h => ((fA.f k d c ((dA b a).f1) ((dA b a).f2)).bind fun i => (dE.j1 k b a h.2.2 i.2.2 d c h.1 h.2.1 i.1 i.2.1))) else (if ((dA b a).f0) = 3 then ((qO.f k d c ((dA b a).f1) ((dA b a).f2)).bind fun j => ((eT.f k d c ((dA b a).f1) ((dA b a).f2)).bind fun l => (dE.j1 k b a j.2.2 l.2.2 d c j.1 j.2.1 l.1 l.2.1))) else ((lK.f k d c ((dA b a).f1)).bind fun m => ((gI.f k d c ((dA b a).f1)).bind fun n => (dE.j1 k b a m.2.2 n.2.2 d c m.1 m.2.1 n.1 n.2.1)))))) else (none)) else (dE.l1 k (c.length : Int) d c)
noncomputable def dE.j1 : Nat → List (S31) → Int → Int → Int → List ByteArray → List (S52) → List ByteArray → List (S52) → List ByteArray → List (S52) → Option (Bool)
 | 0, _, _, _, _, _, _, _, _, _, _ => none
 | k + 1, c, d, e, g, h, i, a, b, j, l => if e = g then ((eX.f k a b j l).bind fun m => (if m = true then ((aM.f k a b).bind fun n => (if n = true then ((jH.f k a b).bind fun o => (if o = true then ((p9.f k a b).bind fun p => (if p = true then (none) else (if e = 0 then (dE.l0 k c (wrap64 (d + 1)) a b) else ((eX.f k a b h i).bind fun q => (if q = true then (dE.l0 k c (wrap64 (d + 1)) a b) else (none)))))) else (none))) else (none))) else (none))) else (none)
noncomputable def dE.l1 : Nat → Int → List ByteArray → List (S52) → Option (Bool)
 | 0, _, _, _ => none
 | k + 1, g, d, c => if g > 0 then ((fT.f k d c).bind fun a => (if (a.length : Int) = 0 then (none) else (if 0 < (a.length : Int) then ((dY.f k d c (rdOf ByteArray.empty a 0)).bind fun h => ((eG.f k d c (rdOf ByteArray.empty a 0) h).bind fun b => ((lK.f k b.1 b.2.1 (rdOf ByteArray.empty a 0)).bind fun e => (if b.2.2 = 0 then (if e.2.2 = 0 then ((jH.f k b.1 b.2.1).bind fun i => (if i = true then (dE.l1 k (wrap64 (g - 1)) e.1 e.2.1) else (none))) else (none)) else (none))))) else (none)))) else (some ((c.length : Int) == 0))
end
noncomputable def dE.f (k : Nat) (l0 : List Int) : Option (Bool) := if (l0.length : Int) > 1048576 then (some true) else ((fJ.f k l0).bind fun Qi => (dE.l0 k Qi.2.2 0 Qi.1 Qi.2.1))
def dE.T33 : Bool × List (List Nat × List Nat) := (true, [([], []), ([], []), ([1], [1]), ([2], [2]), ([], []), ([], []), ([5], [5]), ([6], [6]), ([4, 7], [4, 7]), ([0, 3, 8, 8], [0, 3, 8]), ([9], [9]), ([10], [10]), ([10], [10]), ([], []), ([13, 11, 9, 0, 1, 2, 3, 4, 5, 6, 7, 8, 9, 10, 11, 13], [11, 13]), ([12, 14, 0, 1, 2, 3, 4, 5, 6, 7, 8, 9, 10, 11, 12, 13, 14], [12])])
def dE.B33 : List Nat := [0, 0, 2, 6, 0, 0, 32, 96, 240, 511, 1023, 2047, 2047, 0, 12287, 32767]
theorem dE.a3U : rtab .any (opsOf Tryz.f3 33) = dE.T33 := by kernel_rfl
theorem dE.ky : o5 dE.T33.2 dE.B33 = true := by kernel_rfl
def dE.T34 : Bool × List (List Nat × List Nat) := (true, [([], []), ([], []), ([1], [1]), ([2], [2]), ([0, 3], [0, 3]), ([4], [4]), ([5], [5]), ([5], [5]), ([], []), ([8, 6, 4, 0, 1, 2, 3, 4, 5, 6, 8], [6, 8]), ([7, 9, 0, 1, 2, 3, 4, 5, 6, 7, 8, 9], [7])])
def dE.B34 : List Nat := [0, 0, 2, 6, 15, 31, 63, 63, 0, 383, 1023]
theorem dE.a3V : rtab .any (opsOf Tryz.f3 34) = dE.T34 := by kernel_rfl
theorem dE.lc : o5 dE.T34.2 dE.B34 = true := by kernel_rfl
set_option maxHeartbeats 8000000 in
set_option maxRecDepth 100000 in
theorem dE.calls (k : Nat) (A0 : Option Addr) (c0 : Nat) (l0 : List Int) (r : Bool) (w : World) (tM : Kd.C (Kd.int .u8) w A0 l0.length l0) (yO : l0.length ≤ c0) (h : dE.f k l0 = some r) :
  Calls Tryz.prog 3 #[.slice A0 l0.length c0] w fun e w' => e = .returned (.bool r) ∧ Below w.heap.size w w' := by
 have hu26 := Tryz.underlying26
 have hu31 := Tryz.underlying31
 obtain ⟨tV, S0⟩ := mZ2 tM yO
 clear tM yO
 have HB := am (Below.refl w.heap.size w)
 unfold dE.f at h
 have H := h
 clear h
 by_cases c2 : (l0.length : Int) > 1048576
 ·rw [if_pos c2] at H
  have OX : decide (1048576 < (l0.length : Int)) = true := decide_eq_true c2
  have XE : decide (1048576 < l0.length) = true := decide_eq_true (by omega)
  clear c2
  obtain rfl := Option.some.inj H
  repeat clear H
  go_enter Tryz.func3, Tryz.ntmps3
  go_wp2
  go_ret
  exact ⟨eR, iJ⟩
 rw [if_neg c2] at H
 have OX : decide (1048576 < (l0.length : Int)) = false := decide_eq_false c2
 have XE : decide (1048576 < l0.length) = false := decide_eq_false (by omega)
 clear c2
 obtain ⟨⟨PJ, dB, bM⟩, A3, H⟩ := bd H
 dsimp only at H
 have H' := am H
 repeat clear H
 go_enter Tryz.func3, Tryz.ntmps3
 go_wp2_with (first | ((with_reducible refine gC 4 ?_); refine cE (some 22) Tryz.func4 (fJ.calls k _ _ l0 PJ dB bM _ (pC tV.1) S0.1 A3.out) ?_; rintro e w4 ⟨Cz, H6, D0, rfl, eH, lW, Rv, hb⟩; refine ⟨_, rfl, ?_⟩; have DC := am (Kd.dO (Kd.aT (ok' := fun k_ => True) eH (fun _ hk_ => trivial)) (aG iJ)); have gG := am (Kd.jK (Kd.aJ (ok' := fun k_ => some k_ ≠ (Cz : Value).ownBlock ∧ some k_ ≠ (D0 : Value).ownBlock) lW (fun k_ hk_ => ⟨hk_.2.1, hk_.2.2⟩)) (aG iJ)); have fD := am (Kd.jK (Kd.aJ (ok' := fun k_ => some k_ ≠ (Cz : Value).ownBlock ∧ some k_ ≠ (H6 : Value).ownBlock) Rv (fun k_ hk_ => ⟨hk_.2.1, hk_.2.2⟩)) (aG iJ)); replace HB := bS iJ hb; clear hb eH lW Rv) | ((with_reducible refine gD 3 ?_); refine bX 3 #[.slice none 0 0, .slice none 0 0] 26 ?_; intro bC hg w5 hbox hb; replace DC := am (Kd.jA (rR DC.1) hb); replace gG := am (Kd.iI (Kd.jU (rN gG.1) bC (Nat.le_of_eq hg.symm)) hb); replace fD := am (Kd.iI (Kd.jU yF bC (Nat.le_of_eq hg.symm)) hb); have aV := am hbox; have C1 := am (u4 : w.heap.size ≤ bC); have sO := C1; replace HB := bS iJ hb; clear hb hbox hg; obtain ⟨Ao6, co6, eo6⟩ := Kd.cZ DC.1; subst eo6; have Z7 := cz2 aV; obtain ⟨QF, QJ, eo8⟩ := Kd.gM gG.1; subst eo8))
 go_loopg [5] k (fun kq v5 w' => ∃ (bR : Int) (bD : List ByteArray) (bG : List (S52)) (uY : Value) (nN : Value), v5 = .int .i64 bR ∧ aC (dE.l0 kq bM bR bD bG = some r) ∧ aC (kq ≤ k) ∧ aC (Kd.N k31 31 w' w.heap.size (fun k_ => some k_ ≠ (uY : Value).ownBlock ∧ some k_ ≠ (nN : Value).ownBlock ∧ k_ ≠ bC) D0 bM) ∧ aC (Kd.R Kd.string 9 w' w.heap.size (fun _ => True) uY bD) ∧ aC (Kd.N k52 52 w' w.heap.size (fun k_ => some k_ ≠ (D0 : Value).ownBlock ∧ some k_ ≠ (uY : Value).ownBlock ∧ k_ ≠ bC) nN bG) ∧ aC (w'.heap[bC]? = some (.cells #[uY, nN] 26 (0, 0))) ∧ aC (Below w.heap.size w w'))
 case atStart => exact ⟨(0), (PJ), (dB), (.slice Ao6 PJ.length co6), (.slice QF dB.length QJ), dU, H', ⟨Nat.le_refl _⟩, ⟨by refine rN ?_; exact Kd.aJ (fN (fN (Kd.aJ fD.1 (fun k_ hk => (⟨hk, hk.2⟩ : _ ∧ k_ ≠ bC))))) (fun _ hk => ⟨hk.1.1.1, ⟨hk.1.1.2, hk.1.2⟩⟩)⟩, ⟨mR DC aV⟩, ⟨by refine rN ?_; exact Kd.aJ (fN (fN (Kd.aJ gG.1 (fun k_ hk => (⟨hk, hk.2⟩ : _ ∧ k_ ≠ bC))))) (fun _ hk => ⟨hk.1.1.2, ⟨hk.1.1.1, hk.1.2⟩⟩)⟩, ⟨qP aV⟩, ⟨NW⟩⟩
 clear H'
 try clear c2
 try clear OX
 try clear XE
 try clear Z7
 obtain ⟨bR, bD, bG, uY, nN, rfl, HA, HK1, iG, aH, aD, aV, HB⟩ := hrel
 cases gk with
 | zero => exact absurd HA.out (by simp [dE.l0])
 | succ k1 =>
  have H := HA.out
  clear HA
  simp only [dE.l0] at H
  refine ic H ?_ ?_ <;> clear H <;> intro FU H
  ·obtain ⟨I7, H⟩ := cN H
   have Dw := am H
   clear H
   obtain ⟨aAJ, EB, mw⟩ := Kd.gM iG.1
   subst mw
   have TR : 0 ≤ (bR : Int) := oT
   have TW : bR < (bM.length : Int) := oT
   obtain ⟨qZ, l8, lI, TC, DO, y9, xC, Ji, Jb⟩ := kv (Kd.d9 iG.1).2.2 bR TR TW
   cases TC
   obtain ⟨ce111, hce111, hMe111, hcc111⟩ := Kd.Hu iG.1 z31 bR TR (by first | exact TW | exact oT | (have e_ := (Kd.d9 iG.1).1; omega))
   obtain ⟨ua111_2, uc111_2, rfl, ZG, XV⟩ := Lx hMe111
   have RC := hcc111 2 _ rfl
   rw [tF _ _ 2 (by omega)] at RC
   replace RC := Option.some.inj (RC.symm.trans xC)
   injection RC with hva_ hvn_ hvc_
   rw [hva_] at XV
   rw [hvc_] at ZG
   have iO := am (show Kd.V Kd.string 9 _ w.heap.size _ _ ((dA bM bR).f2) from Kd.V_mk ZG XV)
   clear hva_ hvn_ hvc_ XV ZG
   clear hcc111 hce111
   have kZ := am Jb
   have xZ := am Ji
   clear Jb Ji
   replace TR := eq_true TR
   replace TW := eq_true TW
   go_upto_block 2 with (first | ((with_reducible refine gD 6 ?_); refine bX 6 #[.int .i64 0, .string (⟨#[]⟩ : ByteArray), .slice none 0 0] 31 ?_; intro fK hg Na hbox hb; replace iG := am (Kd.iI (Kd.jU VY fK (Nat.le_of_eq hg.symm)) hb); replace aH := RB fU hb; replace aD := am (Kd.iI (Kd.jU lE fK (Nat.le_of_eq hg.symm)) hb); replace iO := am (Kd.X7 (Kd.SN (rV iO.out) fK (Nat.le_of_eq hg.symm)) hb); replace kZ := am (Kd.aU Mm hb); have lD := am hbox; have Oh := am (Yd : w.heap.size ≤ fK); have KA := Oh; replace HB := bS NW hb; have xN := nL iD hg; have EO := nG iD hg; replace aV := bB iD hb; clear hb hbox hg; have Z14 := nZ1 EO xN; have yo := cz3 lD; have Z16 := cz2 aV) | ((with_reducible refine gD 7 ?_); refine bX 7 #[.slice none 0 0, .slice none 0 0] 26 ?_; intro dG hg w17 hbox hb; replace iG := am (Kd.iI (Kd.jU (by refine rN ?_; exact (Kd.aJ (fN (fN (fN (Kd.aJ iG.1 (fun k_ hk => (⟨hk, hk.2⟩ : _ ∧ k_ ≠ fK)))))) (fun _ h_ => h_.1))) dG (Nat.le_of_eq hg.symm)) hb); replace aH := am (Kd.jA (by refine rR ?_; exact (Kd.aT (fR (fR (fR (tR aH lD)))) (fun _ h_ => h_.1))) hb); replace aD := am (Kd.iI (Kd.jU (by refine rN ?_; exact (Kd.aJ (fN (fN (fN (Kd.aJ aD.1 (fun k_ hk => (⟨hk, hk.2⟩ : _ ∧ k_ ≠ fK)))))) (fun _ h_ => h_.1))) dG (Nat.le_of_eq hg.symm)) hb); replace kZ := am (Kd.aU ((Kd.mF (by refine rV ?_; exact (Kd.dQ (Kd.iZ (p := ⟨fK, 2, none⟩) (Kd.iZ (p := ⟨fK, 1, none⟩) (Kd.iZ (p := ⟨fK, 0, none⟩) (Kd.dQ iO.out (fun k_ hk => (⟨hk, hk.2⟩ : _ ∧ k_ ≠ fK))) (fun _ hk => hk.2) (.int .i64 ((dA bM bR).f0))) (fun _ hk => hk.2) (.string ((dA bM bR).f1))) (fun _ hk => hk.2) (.slice l8 ((dA bM bR).f2).length lI)) (fun _ h_ => h_.1)))).2.2) hb); replace iO := am (Kd.X7 (Kd.SN (by refine rV ?_; exact (Kd.dQ (Kd.iZ (p := ⟨fK, 2, none⟩) (Kd.iZ (p := ⟨fK, 1, none⟩) (Kd.iZ (p := ⟨fK, 0, none⟩) (Kd.dQ iO.out (fun k_ hk => (⟨hk, hk.2⟩ : _ ∧ k_ ≠ fK))) (fun _ hk => hk.2) (.int .i64 ((dA bM bR).f0))) (fun _ hk => hk.2) (.string ((dA bM bR).f1))) (fun _ hk => hk.2) (.slice l8 ((dA bM bR).f2).length lI)) (fun _ h_ => h_.1))) dG (Nat.le_of_eq hg.symm)) hb); have fC := am hbox; have Oi := am (by rw [hg]; exact (aG (by repeat (first | (with_reducible first | exact HB.1 | apply cB | apply bA | apply aY | refine aK ?_ sO.1 | refine aK ?_ KA.1) | exact HB.1))) : w.heap.size ≤ dG); have RZ := Oi; replace HB := am (jB (by repeat (first | (with_reducible first | exact HB.1 | apply cB | apply bA | apply aY | refine aK ?_ sO.1 | refine aK ?_ KA.1) | exact HB.1)) hb); have vX := am (by rw [hg]; exact Nat.ne_of_lt (fO (g := bC) (o := .cells #[uY, nN] 26 (0, 0)) pY7) : bC ≠ dG); have z8 := am (by rw [hg]; exact Nat.ne_of_gt (fO (g := bC) (o := .cells #[uY, nN] 26 (0, 0)) pY7) : dG ≠ bC); replace aV := am (aX (g := bC) (o := .cells #[uY, nN] 26 (0, 0)) pY7 hb); have tD := am (by rw [hg]; exact Nat.ne_of_lt (fO (g := fK) (o := .cells #[.int .i64 ((dA bM bR).f0), .string ((dA bM bR).f1), .slice l8 ((dA bM bR).f2).length lI] 31 (0, 0)) pY4) : fK ≠ dG); have vY := am (by rw [hg]; exact Nat.ne_of_gt (fO (g := fK) (o := .cells #[.int .i64 ((dA bM bR).f0), .string ((dA bM bR).f1), .slice l8 ((dA bM bR).f2).length lI] 31 (0, 0)) pY4) : dG ≠ fK); replace lD := am (aX (g := fK) (o := .cells #[.int .i64 ((dA bM bR).f0), .string ((dA bM bR).f1), .slice l8 ((dA bM bR).f2).length lI] 31 (0, 0)) pY4 hb); clear hb hbox hg; obtain ⟨jL, jC, Wu⟩ := Kd.cZ aH.1; subst Wu; have Z19 := nZ2 z8 vX vY tD; have yq := cz2 fC; obtain ⟨kF, jP, mx⟩ := Kd.gM aD.1; subst mx; have yr := cz2 aV) | ((with_reducible refine gD 8 ?_); refine bX 8 #[.slice none 0 0, .slice none 0 0] 26 ?_; intro eD hg w24 hbox hb; replace iG := am (Kd.iI (Kd.jU (by refine rN ?_; exact (Kd.aJ (fN (fN (Kd.aJ iG.1 (fun k_ hk => (⟨hk, hk.2⟩ : _ ∧ k_ ≠ dG))))) (fun _ h_ => h_.1))) eD (Nat.le_of_eq hg.symm)) hb); replace aH := am (Kd.jA (by refine rR ?_; exact (Kd.aT (fR (fR (tR aH fC))) (fun _ h_ => h_.1))) hb); replace aD := am (Kd.iI (Kd.jU (by refine rN ?_; exact (Kd.aJ (fN (fN (Kd.aJ aD.1 (fun k_ hk => (⟨hk, hk.2⟩ : _ ∧ k_ ≠ dG))))) (fun _ h_ => h_.1))) eD (Nat.le_of_eq hg.symm)) hb); replace kZ := am (Kd.aU ((Kd.mF (by refine rV ?_; exact (Kd.dQ (Kd.iZ (p := ⟨dG, 1, none⟩) (Kd.iZ (p := ⟨dG, 0, none⟩) (Kd.dQ iO.out (fun k_ hk => (⟨hk, hk.2⟩ : _ ∧ k_ ≠ dG))) (fun _ hk => hk.2) (.slice jL bD.length jC)) (fun _ hk => hk.2) (.slice kF bG.length jP)) (fun _ h_ => h_.1)))).2.2) hb); replace iO := am (Kd.X7 (Kd.SN (by refine rV ?_; exact (Kd.dQ (Kd.iZ (p := ⟨dG, 1, none⟩) (Kd.iZ (p := ⟨dG, 0, none⟩) (Kd.dQ iO.out (fun k_ hk => (⟨hk, hk.2⟩ : _ ∧ k_ ≠ dG))) (fun _ hk => hk.2) (.slice jL bD.length jC)) (fun _ hk => hk.2) (.slice kF bG.length jP)) (fun _ h_ => h_.1))) eD (Nat.le_of_eq hg.symm)) hb); have jF := am hbox; have vr := am (by rw [hg]; exact (aG (by repeat (first | (with_reducible first | exact HB.1 | apply cB | apply bA | apply aY | refine aK ?_ sO.1 | refine aK ?_ KA.1 | refine aK ?_ RZ.1) | exact HB.1))) : w.heap.size ≤ eD); have Zh := vr; replace HB := am (jB (by repeat (first | (with_reducible first | exact HB.1 | apply cB | apply bA | apply aY | refine aK ?_ sO.1 | refine aK ?_ KA.1 | refine aK ?_ RZ.1) | exact HB.1)) hb); have qC := am (by rw [hg]; exact Nat.ne_of_lt (fO (g := bC) (o := .cells #[.slice jL bD.length jC, .slice kF bG.length jP] 26 (0, 0)) TT) : bC ≠ eD); have zA := am (by rw [hg]; exact Nat.ne_of_gt (fO (g := bC) (o := .cells #[.slice jL bD.length jC, .slice kF bG.length jP] 26 (0, 0)) TT) : eD ≠ bC); replace aV := am (aX (g := bC) (o := .cells #[.slice jL bD.length jC, .slice kF bG.length jP] 26 (0, 0)) TT hb); have z7 := am (by rw [hg]; exact Nat.ne_of_lt (fO (g := fK) (o := .cells #[.int .i64 ((dA bM bR).f0), .string ((dA bM bR).f1), .slice l8 ((dA bM bR).f2).length lI] 31 (0, 0)) NV) : fK ≠ eD); have EP := am (by rw [hg]; exact Nat.ne_of_gt (fO (g := fK) (o := .cells #[.int .i64 ((dA bM bR).f0), .string ((dA bM bR).f1), .slice l8 ((dA bM bR).f2).length lI] 31 (0, 0)) NV) : eD ≠ fK); replace lD := am (aX (g := fK) (o := .cells #[.int .i64 ((dA bM bR).f0), .string ((dA bM bR).f1), .slice l8 ((dA bM bR).f2).length lI] 31 (0, 0)) NV hb); have qD := am (by rw [hg]; exact Nat.ne_of_lt (fO (g := dG) (o := .cells #[.slice jL bD.length jC, .slice kF bG.length jP] 26 (0, 0)) (qP fC)) : dG ≠ eD); have vZ := am (by rw [hg]; exact Nat.ne_of_gt (fO (g := dG) (o := .cells #[.slice jL bD.length jC, .slice kF bG.length jP] 26 (0, 0)) (qP fC)) : eD ≠ dG); replace fC := am (aX (g := dG) (o := .cells #[.slice jL bD.length jC, .slice kF bG.length jP] 26 (0, 0)) (qP fC) hb); clear hb hbox hg; have Z25 := nZ3 zA qC EP z7 vZ qD; have Z28 := cz2 jF; have Z29 := cz3 lD))
   (try simp only [Act.put, List.setIfInBounds_toArray, List.set_cons_zero, List.set_cons_succ])
   go_cut [9, 10] (fun v9 v10 wc => ∃ (kq : Nat) (WH : Int) (PQ : Int) (pG : List ByteArray) (pH : List (S52)) (GL : List ByteArray) (GM : List (S52)) (wK : Value) (BQ : Value) (GI : Value) (RP : Value), v9 = .int .i64 WH ∧ v10 = .int .i64 PQ ∧ aC (dE.j1 kq bM bR WH PQ bD bG pG pH GL GM = some r) ∧ aC (kq ≤ k1) ∧ aC (Kd.N k31 31 wc w.heap.size (fun k_ => some k_ ≠ ((.slice jL bD.length jC) : Value).ownBlock ∧ some k_ ≠ ((.slice kF bG.length jP) : Value).ownBlock ∧ some k_ ≠ (wK : Value).ownBlock ∧ some k_ ≠ (BQ : Value).ownBlock ∧ some k_ ≠ (GI : Value).ownBlock ∧ some k_ ≠ (RP : Value).ownBlock ∧ k_ ≠ bC ∧ k_ ≠ dG ∧ k_ ≠ eD) (.slice (some qZ) bM.length EB) bM) ∧ aC (Kd.R Kd.string 9 wc w.heap.size (fun _ => True) (.slice jL bD.length jC) bD) ∧ aC (Kd.N k52 52 wc w.heap.size (fun k_ => some k_ ≠ ((.slice (some qZ) bM.length EB) : Value).ownBlock ∧ some k_ ≠ ((.slice jL bD.length jC) : Value).ownBlock ∧ some k_ ≠ (wK : Value).ownBlock ∧ some k_ ≠ (GI : Value).ownBlock ∧ k_ ≠ bC ∧ k_ ≠ dG ∧ k_ ≠ eD) (.slice kF bG.length jP) bG) ∧ aC (Kd.R Kd.string 9 wc w.heap.size (fun _ => True) wK pG) ∧ aC (Kd.N k52 52 wc w.heap.size (fun k_ => some k_ ≠ ((.slice (some qZ) bM.length EB) : Value).ownBlock ∧ some k_ ≠ ((.slice jL bD.length jC) : Value).ownBlock ∧ some k_ ≠ (wK : Value).ownBlock ∧ some k_ ≠ (GI : Value).ownBlock ∧ k_ ≠ bC ∧ k_ ≠ dG ∧ k_ ≠ eD) BQ pH) ∧ aC (Kd.R Kd.string 9 wc w.heap.size (fun _ => True) GI GL) ∧ aC (Kd.N k52 52 wc w.heap.size (fun k_ => some k_ ≠ ((.slice (some qZ) bM.length EB) : Value).ownBlock ∧ some k_ ≠ ((.slice jL bD.length jC) : Value).ownBlock ∧ some k_ ≠ (wK : Value).ownBlock ∧ some k_ ≠ (GI : Value).ownBlock ∧ k_ ≠ bC ∧ k_ ≠ dG ∧ k_ ≠ eD) RP GM) ∧ aC (wc.heap[bC]? = some (.cells #[(.slice jL bD.length jC), (.slice kF bG.length jP)] 26 (0, 0))) ∧ aC (wc.heap[dG]? = some (.cells #[wK, BQ] 26 (0, 0))) ∧ aC (wc.heap[eD]? = some (.cells #[GI, RP] 26 (0, 0))) ∧ aC (Kd.C Kd.string wc l8 ((dA bM bR).f2).length ((dA bM bR).f2)) ∧ aC (Below w.heap.size w wc))
   case first =>
    have H := Dw.1
    clear Dw
    refine iq H ?_ ?_ <;> clear H <;> intro c30 MP a08 H
    ·(first | rw [MP] | (simp only [sD, wV]; rw [MP]) | skip)
     obtain ⟨⟨xW, yK, tN⟩, A31, H⟩ := bd H
     dsimp only at H
     obtain ⟨⟨Cu, O3, Cv⟩, sw, H⟩ := bd H
     dsimp only at H
     have H' := am H
     repeat clear H
     have yw := nZ3 xN EO vX z8 qC zA
     have Z36 := cz2 aV
     have Z37 := nZ2 tD vY z7 EP
     have Z39 := cz3 lD
     go_wp2_with (first | ((with_reducible refine kV (f := 5) rfl ?_); refine uN (some 61) rfl rfl Tryz.func5 (by kernel_rfl) rfl #[.agg #[.slice jL bD.length jC, .slice kF bG.length jP], .string ((dA bM bR).f1), .slice l8 ((dA bM bR).f2).length lI] rfl AS ?_; (with_reducible refine (p8.calls k1 _ _ bD _ _ bG ((dA bM bR).f1) _ _ ((dA bM bR).f2) xW yK tN _ ?side1 ?side2 ?side3 ?side4 ?side5 ?side6 A31.out).mono ?_); (case side1 => refine (Kd.bH (e := 9) (base := w.heap.size) (ok := fun k_ => True) (n := bD.length) (c := jC) ?_).2.2; exact (by refine rR ?_; exact (Kd.aT (fR (fR (tR aH jF))) (fun _ h_ => h_.1)))); (case side2 => exact (Kd.bH aH.1).2.1); (case side3 => refine (Kd.d9 (e := 52) (base := w.heap.size) (ok := fun k_ => ((((some k_ ≠ (.slice (some qZ) bM.length EB : Value).ownBlock ∧ (some k_ ≠ (.slice jL bD.length jC : Value).ownBlock ∧ k_ ≠ bC)) ∧ k_ ≠ fK) ∧ k_ ≠ dG) ∧ k_ ≠ eD)) (n := bG.length) (c := jP) ?_).2.2; exact (by refine rN ?_; exact (Kd.aJ (fN (fN (Kd.aJ aD.1 (fun k_ hk => (⟨hk, hk.2⟩ : _ ∧ k_ ≠ eD))))) (fun _ h_ => h_.1)))); (case side4 => exact (Kd.d9 aD.1).2.1); (case side5 => exact ((Kd.mF (by refine rV ?_; exact (Kd.dQ (Kd.iZ (p := ⟨eD, 1, none⟩) (Kd.iZ (p := ⟨eD, 0, none⟩) (Kd.dQ iO.out (fun k_ hk => (⟨hk, hk.2⟩ : _ ∧ k_ ≠ eD))) (fun _ hk => hk.2) (.slice jL bD.length jC)) (fun _ hk => hk.2) (.slice kF bG.length jP)) (fun _ h_ => h_.1)))).2.2)); (case side6 => exact xZ.1); rintro e w40 ⟨Da, Yq, rfl, eH, lW, hb⟩; refine ⟨_, rfl, ?_⟩; have wR := am (Kd.dO (Kd.fF eH (Kd.R_lt (by refine rR ?_; exact (Kd.aT (fR (fR (tR aH jF))) (fun _ h_ => h_.1))))) (aG yP)); have vF := am (Kd.jK (Kd.aJ (ok' := fun k_ => some k_ ≠ (Da : Value).ownBlock ∧ some k_ ≠ (.slice (some qZ) bM.length EB : Value).ownBlock ∧ some k_ ≠ (.slice jL bD.length jC : Value).ownBlock ∧ some k_ ≠ (.slice kF bG.length jP : Value).ownBlock ∧ k_ ≠ bC ∧ k_ ≠ fK ∧ k_ ≠ dG ∧ k_ ≠ eD) (Kd.S_N (Kd.lG lW)) (fun k_ hk_ => ⟨hk_.1, (Kd.fresh' (Kd.N_lt (by refine rN ?_; exact (Kd.aJ (fN (fN (Kd.aJ iG.1 (fun k_ hk => (⟨hk, hk.2⟩ : _ ∧ k_ ≠ eD))))) (fun _ h_ => h_.1)))) k_ hk_.2.1), (Kd.fresh' (Kd.R_lt (by refine rR ?_; exact (Kd.aT (fR (fR (tR aH jF))) (fun _ h_ => h_.1)))) k_ hk_.2.1), (Kd.fresh' (Kd.N_lt (by refine rN ?_; exact (Kd.aJ (fN (fN (Kd.aJ aD.1 (fun k_ hk => (⟨hk, hk.2⟩ : _ ∧ k_ ≠ eD))))) (fun _ h_ => h_.1)))) k_ hk_.2.1), (Kd.jD (g := bC) (o := .cells #[.slice jL bD.length jC, .slice kF bG.length jP] 26 (0, 0)) Cm k_ hk_.2.1), (Kd.jD (g := fK) (o := .cells #[.int .i64 ((dA bM bR).f0), .string ((dA bM bR).f1), .slice l8 ((dA bM bR).f2).length lI] 31 (0, 0)) Cn k_ hk_.2.1), (Kd.jD (g := dG) (o := .cells #[.slice jL bD.length jC, .slice kF bG.length jP] 26 (0, 0)) Co k_ hk_.2.1), (Kd.jD (g := eD) (o := .cells #[.slice jL bD.length jC, .slice kF bG.length jP] 26 (0, 0)) (qP jF) k_ hk_.2.1)⟩)) (aG yP)); replace iG := am (Kd.aJ (Kd.eY (Kd.eY (Kd.mZ (by refine rN ?_; exact (Kd.aJ (fN (fN (Kd.aJ iG.1 (fun k_ hk => (⟨hk, hk.2⟩ : _ ∧ k_ ≠ eD))))) (fun _ h_ => h_.1))) hb) (Kd.bT eH)) kN) (fun _ h_ => h_.1)); replace aH := am (Kd.dV (by refine rR ?_; exact (Kd.aT (fR (fR (tR aH jF))) (fun _ h_ => h_.1))) (Kd.bT eH) hb); replace aD := am (Kd.aJ (Kd.eY (Kd.eY (Kd.mZ (by refine rN ?_; exact (Kd.aJ (fN (fN (Kd.aJ aD.1 (fun k_ hk => (⟨hk, hk.2⟩ : _ ∧ k_ ≠ eD))))) (fun _ h_ => h_.1))) hb) (Kd.bT eH)) kN) (fun _ h_ => h_.1)); replace aV := am (aX (g := bC) (o := .cells #[.slice jL bD.length jC, .slice kF bG.length jP] 26 (0, 0)) Cm hb); replace kZ := am (Kd.aU ((Kd.mF (by refine rV ?_; exact (Kd.dQ (Kd.iZ (p := ⟨eD, 1, none⟩) (Kd.iZ (p := ⟨eD, 0, none⟩) (Kd.dQ iO.out (fun k_ hk => (⟨hk, hk.2⟩ : _ ∧ k_ ≠ eD))) (fun _ hk => hk.2) (.slice jL bD.length jC)) (fun _ hk => hk.2) (.slice kF bG.length jP)) (fun _ h_ => h_.1)))).2.2) hb); replace iO := am (Kd.dQ (Kd.nU (Kd.nU (Kd.DK (by refine rV ?_; exact (Kd.dQ (Kd.iZ (p := ⟨eD, 1, none⟩) (Kd.iZ (p := ⟨eD, 0, none⟩) (Kd.dQ iO.out (fun k_ hk => (⟨hk, hk.2⟩ : _ ∧ k_ ≠ eD))) (fun _ hk => hk.2) (.slice jL bD.length jC)) (fun _ hk => hk.2) (.slice kF bG.length jP)) (fun _ h_ => h_.1))) hb) (Kd.bT eH)) kN) (fun _ h_ => h_.1)); replace lD := am (aX (g := fK) (o := .cells #[.int .i64 ((dA bM bR).f0), .string ((dA bM bR).f1), .slice l8 ((dA bM bR).f2).length lI] 31 (0, 0)) Cn hb); replace fC := am (aX (g := dG) (o := .cells #[.slice jL bD.length jC, .slice kF bG.length jP] 26 (0, 0)) Co hb); replace jF := am (aX (g := eD) (o := .cells #[.slice jL bD.length jC, .slice kF bG.length jP] 26 (0, 0)) (qP jF) hb); replace HB := bS yP hb; clear hb eH lW; obtain ⟨zW, zY, nh⟩ := Kd.cZ wR.1; subst nh; have Z42 := nZ1 qD vZ; have Z43 := cz2 fC; obtain ⟨ZL, Ao, aDD⟩ := Kd.gM vF.1; subst aDD; have zd := cz2 aV; have Z46 := cz3 lD) | ((with_reducible refine kV (f := 6) rfl ?_); refine uN (some 70) rfl rfl Tryz.func6 (by kernel_rfl) rfl #[.agg #[.slice jL bD.length jC, .slice kF bG.length jP], .string ((dA bM bR).f1), .slice l8 ((dA bM bR).f2).length lI] rfl AS ?_; (with_reducible refine (dC.calls k1 _ _ bD _ _ bG ((dA bM bR).f1) _ _ ((dA bM bR).f2) Cu O3 Cv _ ?side1 ?side2 ?side3 ?side4 ?side5 ?side6 sw.out).mono ?_); (case side1 => refine (Kd.bH (e := 9) (base := w.heap.size) (ok := fun k_ => some k_ ≠ (.slice zW xW.length zY : Value).ownBlock) (n := bD.length) (c := jC) ?_).2.2; exact (by refine rR ?_; exact Kd.aT (fR (fR (tR aH fC))) (fun _ hk => hk.1.2))); (case side2 => exact (Kd.bH aH.1).2.1); (case side3 => refine (Kd.d9 (e := 52) (base := w.heap.size) (ok := fun k_ => ((((((some k_ ≠ (.slice (some qZ) bM.length EB : Value).ownBlock ∧ (some k_ ≠ (.slice jL bD.length jC : Value).ownBlock ∧ k_ ≠ bC)) ∧ k_ ≠ fK) ∧ k_ ≠ dG) ∧ k_ ≠ eD) ∧ some k_ ≠ (.slice zW xW.length zY : Value).ownBlock) ∧ some k_ ≠ (.slice ZL yK.length Ao : Value).ownBlock)) (n := bG.length) (c := jP) ?_).2.2; exact (by refine rN ?_; exact (Kd.aJ (fN (fN (Kd.aJ aD.1 (fun k_ hk => (⟨hk, hk.1.1.1.2⟩ : _ ∧ k_ ≠ dG))))) (fun _ h_ => h_.1)))); (case side4 => exact (Kd.d9 aD.1).2.1); (case side5 => exact ((Kd.mF (by refine rV ?_; exact (Kd.dQ (Kd.iZ (p := ⟨dG, 1, none⟩) (Kd.iZ (p := ⟨dG, 0, none⟩) (Kd.dQ iO.out (fun k_ hk => (⟨hk, hk.1.1.1.2⟩ : _ ∧ k_ ≠ dG))) (fun _ hk => hk.2) (.slice zW xW.length zY)) (fun _ hk => hk.2) (.slice ZL yK.length Ao)) (fun _ h_ => h_.1)))).2.2)); (case side6 => exact xZ.1); rintro e w47 ⟨aFI, Yr, rfl, eH, lW, hb⟩; refine ⟨_, rfl, ?_⟩; have Zm := am (Kd.dO (Kd.fF (Kd.fF (Kd.aT (ok' := fun k_ => True) eH (fun _ hk_ => trivial)) (Kd.R_lt (by refine rR ?_; exact (Kd.aT (fR (fR (tR aH fC))) (fun _ h_ => h_.1))))) (Kd.R_lt (by refine rR ?_; exact (Kd.aT (fR (fR (tR wR fC))) (fun _ h_ => h_.1))))) (aG yP)); have wS := am (Kd.jK (Kd.aJ (ok' := fun k_ => some k_ ≠ (aFI : Value).ownBlock ∧ some k_ ≠ (.slice (some qZ) bM.length EB : Value).ownBlock ∧ some k_ ≠ (.slice jL bD.length jC : Value).ownBlock ∧ some k_ ≠ (.slice kF bG.length jP : Value).ownBlock ∧ some k_ ≠ (.slice zW xW.length zY : Value).ownBlock ∧ some k_ ≠ (.slice ZL yK.length Ao : Value).ownBlock ∧ k_ ≠ bC ∧ k_ ≠ fK ∧ k_ ≠ dG ∧ k_ ≠ eD) lW (fun k_ hk_ => ⟨hk_.2, (Kd.fresh' (Kd.N_lt (by refine rN ?_; exact (Kd.aJ (fN (fN (Kd.aJ iG.1 (fun k_ hk => (⟨hk, hk.1.1.1.2⟩ : _ ∧ k_ ≠ dG))))) (fun _ h_ => h_.1)))) k_ hk_.1), (Kd.fresh' (Kd.R_lt (by refine rR ?_; exact (Kd.aT (fR (fR (tR aH fC))) (fun _ h_ => h_.1)))) k_ hk_.1), (Kd.fresh' (Kd.N_lt (by refine rN ?_; exact (Kd.aJ (fN (fN (Kd.aJ aD.1 (fun k_ hk => (⟨hk, hk.1.1.1.2⟩ : _ ∧ k_ ≠ dG))))) (fun _ h_ => h_.1)))) k_ hk_.1), (Kd.fresh' (Kd.R_lt (by refine rR ?_; exact (Kd.aT (fR (fR (tR wR fC))) (fun _ h_ => h_.1)))) k_ hk_.1), (Kd.fresh' (Kd.N_lt (by refine rN ?_; exact (Kd.aJ (fN (fN (Kd.aJ vF.1 (fun k_ hk => (⟨hk, hk.2.2.2.2.2.2.1⟩ : _ ∧ k_ ≠ dG))))) (fun _ h_ => h_.1)))) k_ hk_.1), (Kd.jD (g := bC) (o := .cells #[.slice jL bD.length jC, .slice kF bG.length jP] 26 (0, 0)) TT k_ hk_.1), (Kd.jD (g := fK) (o := .cells #[.int .i64 ((dA bM bR).f0), .string ((dA bM bR).f1), .slice l8 ((dA bM bR).f2).length lI] 31 (0, 0)) NV k_ hk_.1), (Kd.jD (g := dG) (o := .cells #[.slice zW xW.length zY, .slice ZL yK.length Ao] 26 (0, 0)) (qP fC) k_ hk_.1), (Kd.jD (g := eD) (o := .cells #[.slice jL bD.length jC, .slice kF bG.length jP] 26 (0, 0)) Cp k_ hk_.1)⟩)) (aG yP)); replace iG := am (Kd.aJ (Kd.eY (Kd.eY (Kd.mZ (by refine rN ?_; exact (Kd.aJ (fN (fN (Kd.aJ iG.1 (fun k_ hk => (⟨hk, hk.1.1.1.2⟩ : _ ∧ k_ ≠ dG))))) (fun _ h_ => h_.1))) hb) (Kd.bT eH)) kN) (fun _ h_ => h_.1)); replace aH := am (Kd.dV (by refine rR ?_; exact (Kd.aT (fR (fR (tR aH fC))) (fun _ h_ => h_.1))) (Kd.bT eH) hb); replace aD := am (Kd.aJ (Kd.eY (Kd.eY (Kd.mZ (by refine rN ?_; exact (Kd.aJ (fN (fN (Kd.aJ aD.1 (fun k_ hk => (⟨hk, hk.1.1.1.2⟩ : _ ∧ k_ ≠ dG))))) (fun _ h_ => h_.1))) hb) (Kd.bT eH)) kN) (fun _ h_ => h_.1)); replace wR := am (Kd.dV (by refine rR ?_; exact (Kd.aT (fR (fR (tR wR fC))) (fun _ h_ => h_.1))) (Kd.bT eH) hb); replace vF := am (Kd.aJ (Kd.eY (Kd.eY (Kd.mZ (by refine rN ?_; exact (Kd.aJ (fN (fN (Kd.aJ vF.1 (fun k_ hk => (⟨hk, hk.2.2.2.2.2.2.1⟩ : _ ∧ k_ ≠ dG))))) (fun _ h_ => h_.1))) hb) (Kd.bT eH)) kN) (fun _ h_ => h_.1)); replace aV := am (aX (g := bC) (o := .cells #[.slice jL bD.length jC, .slice kF bG.length jP] 26 (0, 0)) TT hb); replace kZ := am (Kd.aU ((Kd.mF (by refine rV ?_; exact (Kd.dQ (Kd.iZ (p := ⟨dG, 1, none⟩) (Kd.iZ (p := ⟨dG, 0, none⟩) (Kd.dQ iO.out (fun k_ hk => (⟨hk, hk.1.1.1.2⟩ : _ ∧ k_ ≠ dG))) (fun _ hk => hk.2) (.slice zW xW.length zY)) (fun _ hk => hk.2) (.slice ZL yK.length Ao)) (fun _ h_ => h_.1)))).2.2) hb); replace iO := am (Kd.dQ (Kd.nU (Kd.nU (Kd.DK (by refine rV ?_; exact (Kd.dQ (Kd.iZ (p := ⟨dG, 1, none⟩) (Kd.iZ (p := ⟨dG, 0, none⟩) (Kd.dQ iO.out (fun k_ hk => (⟨hk, hk.1.1.1.2⟩ : _ ∧ k_ ≠ dG))) (fun _ hk => hk.2) (.slice zW xW.length zY)) (fun _ hk => hk.2) (.slice ZL yK.length Ao)) (fun _ h_ => h_.1))) hb) (Kd.bT eH)) kN) (fun _ h_ => h_.1)); replace lD := am (aX (g := fK) (o := .cells #[.int .i64 ((dA bM bR).f0), .string ((dA bM bR).f1), .slice l8 ((dA bM bR).f2).length lI] 31 (0, 0)) NV hb); replace fC := am (aX (g := dG) (o := .cells #[.slice zW xW.length zY, .slice ZL yK.length Ao] 26 (0, 0)) (qP fC) hb); replace jF := am (aX (g := eD) (o := .cells #[.slice jL bD.length jC, .slice kF bG.length jP] 26 (0, 0)) Cp hb); replace HB := bS yP hb; clear hb eH lW; obtain ⟨uy, a0S, aDF⟩ := Kd.cZ Zm.1; subst aDF; have Z49 := cz2 jF; obtain ⟨fw, mg, nu⟩ := Kd.gM wS.1; subst nu))
     go_meet
     case rel => exact ⟨_, (tN), (Cv), (xW), (yK), (Cu), (O3), (.slice zW xW.length zY), (.slice ZL yK.length Ao), (.slice uy Cu.length a0S), (.slice fw O3.length mg), dU, dU, H', ⟨by have := HK1.out; first | omega | exact Nat.le_refl _⟩, ⟨by refine rN ?_; exact Kd.aJ (fN (fN (Kd.aJ iG.1 (fun k_ hk => (⟨hk, hk.1.1.1.1.2⟩ : _ ∧ k_ ≠ eD))))) (fun _ hk => ⟨hk.1.1.1.1.1.1.1.1.1, ⟨hk.1.1.1.1.1.1.1.1.2.1, ⟨hk.1.1.1.1.2, ⟨hk.1.1.1.2, ⟨hk.1.1.2, ⟨hk.1.2, ⟨hk.1.1.1.1.1.1.1.1.2.2, ⟨hk.1.1.1.1.1.1.2, hk.1.1.1.1.1.2⟩⟩⟩⟩⟩⟩⟩⟩)⟩, ⟨mR aH jF⟩, ⟨by refine rN ?_; exact Kd.aJ (fN (fN (Kd.aJ aD.1 (fun k_ hk => (⟨hk, hk.1.1.1.1.2⟩ : _ ∧ k_ ≠ eD))))) (fun _ hk => ⟨hk.1.1.1.1.1.1.1.1.1, ⟨hk.1.1.1.1.1.1.1.1.2.1, ⟨hk.1.1.1.1.2, ⟨hk.1.1.2, ⟨hk.1.1.1.1.1.1.1.1.2.2, ⟨hk.1.1.1.1.1.1.2, hk.1.1.1.1.1.2⟩⟩⟩⟩⟩⟩)⟩, ⟨mR wR jF⟩, ⟨by refine rN ?_; exact Kd.aJ (fN (fN (Kd.aJ vF.1 (fun k_ hk => (⟨hk, hk.1.1.2.2.2.2.2.2.2⟩ : _ ∧ k_ ≠ eD))))) (fun _ hk => ⟨hk.1.1.1.2.1, ⟨hk.1.1.1.2.2.1, ⟨hk.1.1.1.1, ⟨hk.1.1.2, ⟨hk.1.1.1.2.2.2.2.1, ⟨hk.1.1.1.2.2.2.2.2.2.1, hk.1.1.1.2.2.2.2.2.2.2⟩⟩⟩⟩⟩⟩)⟩, ⟨mR Zm jF⟩, ⟨by refine rN ?_; exact Kd.aJ (fN (fN (Kd.aJ wS.1 (fun k_ hk => (⟨hk, hk.2.2.2.2.2.2.2.2.2⟩ : _ ∧ k_ ≠ eD))))) (fun _ hk => ⟨hk.1.2.1, ⟨hk.1.2.2.1, ⟨hk.1.2.2.2.2.1, ⟨hk.1.1, ⟨hk.1.2.2.2.2.2.2.1, ⟨hk.1.2.2.2.2.2.2.2.2.1, hk.1.2.2.2.2.2.2.2.2.2⟩⟩⟩⟩⟩⟩)⟩, ⟨qF aV qC⟩, ⟨qF fC qD⟩, ⟨qP jF⟩, ⟨(Kd.mF (by refine rV ?_; exact (Kd.dQ (Kd.iZ (p := ⟨eD, 1, none⟩) (Kd.iZ (p := ⟨eD, 0, none⟩) (Kd.dQ iO.out (fun k_ hk => (⟨hk, hk.1.1.1.1.2⟩ : _ ∧ k_ ≠ eD))) (fun _ hk => hk.2) (.slice uy Cu.length a0S)) (fun _ hk => hk.2) (.slice fw O3.length mg)) (fun _ h_ => h_.1)))).2.2⟩, ⟨yP⟩⟩
    ·(first | rw [MP] | (simp only [sD, wV]; rw [MP]) | skip)
     refine iq H ?_ ?_ <;> clear H <;> intro c51 a0E aKF H
     ·obtain ⟨⟨zN, FD, Tw⟩, sx, H⟩ := bd H
      dsimp only at H
      obtain ⟨⟨IU, Gp, a3P⟩, A53, H⟩ := bd H
      dsimp only at H
      have H' := am H
      repeat clear H
      have Z54 := nZ3 xN EO vX z8 qC zA
      have Z57 := cz2 aV
      have Z58 := nZ2 tD vY z7 EP
      have Z60 := cz3 lD
      go_wp2_with (first | ((with_reducible refine kV (f := 7) rfl ?_); refine uN (some 81) rfl rfl Tryz.func7 (by kernel_rfl) rfl #[.agg #[.slice jL bD.length jC, .slice kF bG.length jP], .string ((dA bM bR).f1), .slice l8 ((dA bM bR).f2).length lI] rfl AS ?_; (with_reducible refine (eG.calls k1 _ _ bD _ _ bG ((dA bM bR).f1) _ _ ((dA bM bR).f2) zN FD Tw _ ?side1 ?side2 ?side3 ?side4 ?side5 ?side6 sx.out).mono ?_); (case side1 => refine (Kd.bH (e := 9) (base := w.heap.size) (ok := fun k_ => True) (n := bD.length) (c := jC) ?_).2.2; exact (by refine rR ?_; exact (Kd.aT (fR (fR (tR aH jF))) (fun _ h_ => h_.1)))); (case side2 => exact (Kd.bH aH.1).2.1); (case side3 => refine (Kd.d9 (e := 52) (base := w.heap.size) (ok := fun k_ => ((((some k_ ≠ (.slice (some qZ) bM.length EB : Value).ownBlock ∧ (some k_ ≠ (.slice jL bD.length jC : Value).ownBlock ∧ k_ ≠ bC)) ∧ k_ ≠ fK) ∧ k_ ≠ dG) ∧ k_ ≠ eD)) (n := bG.length) (c := jP) ?_).2.2; exact (by refine rN ?_; exact (Kd.aJ (fN (fN (Kd.aJ aD.1 (fun k_ hk => (⟨hk, hk.2⟩ : _ ∧ k_ ≠ eD))))) (fun _ h_ => h_.1)))); (case side4 => exact (Kd.d9 aD.1).2.1); (case side5 => exact ((Kd.mF (by refine rV ?_; exact (Kd.dQ (Kd.iZ (p := ⟨eD, 1, none⟩) (Kd.iZ (p := ⟨eD, 0, none⟩) (Kd.dQ iO.out (fun k_ hk => (⟨hk, hk.2⟩ : _ ∧ k_ ≠ eD))) (fun _ hk => hk.2) (.slice jL bD.length jC)) (fun _ hk => hk.2) (.slice kF bG.length jP)) (fun _ h_ => h_.1)))).2.2)); (case side6 => exact xZ.1); rintro e w61 ⟨Mz, mJ, rfl, eH, lW, hb⟩; refine ⟨_, rfl, ?_⟩; have vG := am (Kd.dO (Kd.fF eH (Kd.R_lt (by refine rR ?_; exact (Kd.aT (fR (fR (tR aH jF))) (fun _ h_ => h_.1))))) (aG yP)); have y5 := am (Kd.jK (Kd.aJ (ok' := fun k_ => some k_ ≠ (Mz : Value).ownBlock ∧ some k_ ≠ (.slice (some qZ) bM.length EB : Value).ownBlock ∧ some k_ ≠ (.slice jL bD.length jC : Value).ownBlock ∧ some k_ ≠ (.slice kF bG.length jP : Value).ownBlock ∧ k_ ≠ bC ∧ k_ ≠ fK ∧ k_ ≠ dG ∧ k_ ≠ eD) (Kd.S_N (Kd.lG lW)) (fun k_ hk_ => ⟨hk_.1, (Kd.fresh' (Kd.N_lt (by refine rN ?_; exact (Kd.aJ (fN (fN (Kd.aJ iG.1 (fun k_ hk => (⟨hk, hk.2⟩ : _ ∧ k_ ≠ eD))))) (fun _ h_ => h_.1)))) k_ hk_.2.1), (Kd.fresh' (Kd.R_lt (by refine rR ?_; exact (Kd.aT (fR (fR (tR aH jF))) (fun _ h_ => h_.1)))) k_ hk_.2.1), (Kd.fresh' (Kd.N_lt (by refine rN ?_; exact (Kd.aJ (fN (fN (Kd.aJ aD.1 (fun k_ hk => (⟨hk, hk.2⟩ : _ ∧ k_ ≠ eD))))) (fun _ h_ => h_.1)))) k_ hk_.2.1), (Kd.jD (g := bC) (o := .cells #[.slice jL bD.length jC, .slice kF bG.length jP] 26 (0, 0)) Cm k_ hk_.2.1), (Kd.jD (g := fK) (o := .cells #[.int .i64 ((dA bM bR).f0), .string ((dA bM bR).f1), .slice l8 ((dA bM bR).f2).length lI] 31 (0, 0)) Cn k_ hk_.2.1), (Kd.jD (g := dG) (o := .cells #[.slice jL bD.length jC, .slice kF bG.length jP] 26 (0, 0)) Co k_ hk_.2.1), (Kd.jD (g := eD) (o := .cells #[.slice jL bD.length jC, .slice kF bG.length jP] 26 (0, 0)) (qP jF) k_ hk_.2.1)⟩)) (aG yP)); replace iG := am (Kd.aJ (Kd.eY (Kd.eY (Kd.mZ (by refine rN ?_; exact (Kd.aJ (fN (fN (Kd.aJ iG.1 (fun k_ hk => (⟨hk, hk.2⟩ : _ ∧ k_ ≠ eD))))) (fun _ h_ => h_.1))) hb) (Kd.bT eH)) kN) (fun _ h_ => h_.1)); replace aH := am (Kd.dV (by refine rR ?_; exact (Kd.aT (fR (fR (tR aH jF))) (fun _ h_ => h_.1))) (Kd.bT eH) hb); replace aD := am (Kd.aJ (Kd.eY (Kd.eY (Kd.mZ (by refine rN ?_; exact (Kd.aJ (fN (fN (Kd.aJ aD.1 (fun k_ hk => (⟨hk, hk.2⟩ : _ ∧ k_ ≠ eD))))) (fun _ h_ => h_.1))) hb) (Kd.bT eH)) kN) (fun _ h_ => h_.1)); replace aV := am (aX (g := bC) (o := .cells #[.slice jL bD.length jC, .slice kF bG.length jP] 26 (0, 0)) Cm hb); replace kZ := am (Kd.aU ((Kd.mF (by refine rV ?_; exact (Kd.dQ (Kd.iZ (p := ⟨eD, 1, none⟩) (Kd.iZ (p := ⟨eD, 0, none⟩) (Kd.dQ iO.out (fun k_ hk => (⟨hk, hk.2⟩ : _ ∧ k_ ≠ eD))) (fun _ hk => hk.2) (.slice jL bD.length jC)) (fun _ hk => hk.2) (.slice kF bG.length jP)) (fun _ h_ => h_.1)))).2.2) hb); replace iO := am (Kd.dQ (Kd.nU (Kd.nU (Kd.DK (by refine rV ?_; exact (Kd.dQ (Kd.iZ (p := ⟨eD, 1, none⟩) (Kd.iZ (p := ⟨eD, 0, none⟩) (Kd.dQ iO.out (fun k_ hk => (⟨hk, hk.2⟩ : _ ∧ k_ ≠ eD))) (fun _ hk => hk.2) (.slice jL bD.length jC)) (fun _ hk => hk.2) (.slice kF bG.length jP)) (fun _ h_ => h_.1))) hb) (Kd.bT eH)) kN) (fun _ h_ => h_.1)); replace lD := am (aX (g := fK) (o := .cells #[.int .i64 ((dA bM bR).f0), .string ((dA bM bR).f1), .slice l8 ((dA bM bR).f2).length lI] 31 (0, 0)) Cn hb); replace fC := am (aX (g := dG) (o := .cells #[.slice jL bD.length jC, .slice kF bG.length jP] 26 (0, 0)) Co hb); replace jF := am (aX (g := eD) (o := .cells #[.slice jL bD.length jC, .slice kF bG.length jP] 26 (0, 0)) (qP jF) hb); replace HB := bS yP hb; clear hb eH lW; obtain ⟨WQ, XM, aDI⟩ := Kd.cZ vG.1; subst aDI; have Z63 := nZ1 qD vZ; have Z64 := cz2 fC; obtain ⟨ZM, Ap, aDJ⟩ := Kd.gM y5.1; subst aDJ; have Z66 := cz2 aV; have Z67 := cz3 lD) | ((with_reducible refine kV (f := 8) rfl ?_); refine uN (some 90) rfl rfl Tryz.func8 (by kernel_rfl) rfl #[.agg #[.slice jL bD.length jC, .slice kF bG.length jP], .string ((dA bM bR).f1), .slice l8 ((dA bM bR).f2).length lI] rfl AS ?_; (with_reducible refine (fA.calls k1 _ _ bD _ _ bG ((dA bM bR).f1) _ _ ((dA bM bR).f2) IU Gp a3P _ ?side1 ?side2 ?side3 ?side4 ?side5 ?side6 A53.out).mono ?_); (case side1 => refine (Kd.bH (e := 9) (base := w.heap.size) (ok := fun k_ => some k_ ≠ (.slice WQ zN.length XM : Value).ownBlock) (n := bD.length) (c := jC) ?_).2.2; exact (by refine rR ?_; exact Kd.aT (fR (fR (tR aH fC))) (fun _ hk => hk.1.2))); (case side2 => exact (Kd.bH aH.1).2.1); (case side3 => refine (Kd.d9 (e := 52) (base := w.heap.size) (ok := fun k_ => ((((((some k_ ≠ (.slice (some qZ) bM.length EB : Value).ownBlock ∧ (some k_ ≠ (.slice jL bD.length jC : Value).ownBlock ∧ k_ ≠ bC)) ∧ k_ ≠ fK) ∧ k_ ≠ dG) ∧ k_ ≠ eD) ∧ some k_ ≠ (.slice WQ zN.length XM : Value).ownBlock) ∧ some k_ ≠ (.slice ZM FD.length Ap : Value).ownBlock)) (n := bG.length) (c := jP) ?_).2.2; exact (by refine rN ?_; exact (Kd.aJ (fN (fN (Kd.aJ aD.1 (fun k_ hk => (⟨hk, hk.1.1.1.2⟩ : _ ∧ k_ ≠ dG))))) (fun _ h_ => h_.1)))); (case side4 => exact (Kd.d9 aD.1).2.1); (case side5 => exact ((Kd.mF (by refine rV ?_; exact (Kd.dQ (Kd.iZ (p := ⟨dG, 1, none⟩) (Kd.iZ (p := ⟨dG, 0, none⟩) (Kd.dQ iO.out (fun k_ hk => (⟨hk, hk.1.1.1.2⟩ : _ ∧ k_ ≠ dG))) (fun _ hk => hk.2) (.slice WQ zN.length XM)) (fun _ hk => hk.2) (.slice ZM FD.length Ap)) (fun _ h_ => h_.1)))).2.2)); (case side6 => exact xZ.1); rintro e w68 ⟨sd, aFM, rfl, eH, lW, hb⟩; refine ⟨_, rfl, ?_⟩; have ZV := am (Kd.dO (Kd.fF (Kd.fF (Kd.aT (ok' := fun k_ => True) eH (fun _ hk_ => trivial)) (Kd.R_lt (by refine rR ?_; exact (Kd.aT (fR (fR (tR aH fC))) (fun _ h_ => h_.1))))) (Kd.R_lt (by refine rR ?_; exact (Kd.aT (fR (fR (tR vG fC))) (fun _ h_ => h_.1))))) (aG yP)); have ZW := am (Kd.jK (Kd.aJ (ok' := fun k_ => some k_ ≠ (sd : Value).ownBlock ∧ some k_ ≠ (.slice (some qZ) bM.length EB : Value).ownBlock ∧ some k_ ≠ (.slice jL bD.length jC : Value).ownBlock ∧ some k_ ≠ (.slice kF bG.length jP : Value).ownBlock ∧ some k_ ≠ (.slice WQ zN.length XM : Value).ownBlock ∧ some k_ ≠ (.slice ZM FD.length Ap : Value).ownBlock ∧ k_ ≠ bC ∧ k_ ≠ fK ∧ k_ ≠ dG ∧ k_ ≠ eD) lW (fun k_ hk_ => ⟨hk_.2, (Kd.fresh' (Kd.N_lt (by refine rN ?_; exact (Kd.aJ (fN (fN (Kd.aJ iG.1 (fun k_ hk => (⟨hk, hk.1.1.1.2⟩ : _ ∧ k_ ≠ dG))))) (fun _ h_ => h_.1)))) k_ hk_.1), (Kd.fresh' (Kd.R_lt (by refine rR ?_; exact (Kd.aT (fR (fR (tR aH fC))) (fun _ h_ => h_.1)))) k_ hk_.1), (Kd.fresh' (Kd.N_lt (by refine rN ?_; exact (Kd.aJ (fN (fN (Kd.aJ aD.1 (fun k_ hk => (⟨hk, hk.1.1.1.2⟩ : _ ∧ k_ ≠ dG))))) (fun _ h_ => h_.1)))) k_ hk_.1), (Kd.fresh' (Kd.R_lt (by refine rR ?_; exact (Kd.aT (fR (fR (tR vG fC))) (fun _ h_ => h_.1)))) k_ hk_.1), (Kd.fresh' (Kd.N_lt (by refine rN ?_; exact (Kd.aJ (fN (fN (Kd.aJ y5.1 (fun k_ hk => (⟨hk, hk.2.2.2.2.2.2.1⟩ : _ ∧ k_ ≠ dG))))) (fun _ h_ => h_.1)))) k_ hk_.1), (Kd.jD (g := bC) (o := .cells #[.slice jL bD.length jC, .slice kF bG.length jP] 26 (0, 0)) TT k_ hk_.1), (Kd.jD (g := fK) (o := .cells #[.int .i64 ((dA bM bR).f0), .string ((dA bM bR).f1), .slice l8 ((dA bM bR).f2).length lI] 31 (0, 0)) NV k_ hk_.1), (Kd.jD (g := dG) (o := .cells #[.slice WQ zN.length XM, .slice ZM FD.length Ap] 26 (0, 0)) (qP fC) k_ hk_.1), (Kd.jD (g := eD) (o := .cells #[.slice jL bD.length jC, .slice kF bG.length jP] 26 (0, 0)) Cp k_ hk_.1)⟩)) (aG yP)); replace iG := am (Kd.aJ (Kd.eY (Kd.eY (Kd.mZ (by refine rN ?_; exact (Kd.aJ (fN (fN (Kd.aJ iG.1 (fun k_ hk => (⟨hk, hk.1.1.1.2⟩ : _ ∧ k_ ≠ dG))))) (fun _ h_ => h_.1))) hb) (Kd.bT eH)) kN) (fun _ h_ => h_.1)); replace aH := am (Kd.dV (by refine rR ?_; exact (Kd.aT (fR (fR (tR aH fC))) (fun _ h_ => h_.1))) (Kd.bT eH) hb); replace aD := am (Kd.aJ (Kd.eY (Kd.eY (Kd.mZ (by refine rN ?_; exact (Kd.aJ (fN (fN (Kd.aJ aD.1 (fun k_ hk => (⟨hk, hk.1.1.1.2⟩ : _ ∧ k_ ≠ dG))))) (fun _ h_ => h_.1))) hb) (Kd.bT eH)) kN) (fun _ h_ => h_.1)); replace vG := am (Kd.dV (by refine rR ?_; exact (Kd.aT (fR (fR (tR vG fC))) (fun _ h_ => h_.1))) (Kd.bT eH) hb); replace y5 := am (Kd.aJ (Kd.eY (Kd.eY (Kd.mZ (by refine rN ?_; exact (Kd.aJ (fN (fN (Kd.aJ y5.1 (fun k_ hk => (⟨hk, hk.2.2.2.2.2.2.1⟩ : _ ∧ k_ ≠ dG))))) (fun _ h_ => h_.1))) hb) (Kd.bT eH)) kN) (fun _ h_ => h_.1)); replace aV := am (aX (g := bC) (o := .cells #[.slice jL bD.length jC, .slice kF bG.length jP] 26 (0, 0)) TT hb); replace kZ := am (Kd.aU ((Kd.mF (by refine rV ?_; exact (Kd.dQ (Kd.iZ (p := ⟨dG, 1, none⟩) (Kd.iZ (p := ⟨dG, 0, none⟩) (Kd.dQ iO.out (fun k_ hk => (⟨hk, hk.1.1.1.2⟩ : _ ∧ k_ ≠ dG))) (fun _ hk => hk.2) (.slice WQ zN.length XM)) (fun _ hk => hk.2) (.slice ZM FD.length Ap)) (fun _ h_ => h_.1)))).2.2) hb); replace iO := am (Kd.dQ (Kd.nU (Kd.nU (Kd.DK (by refine rV ?_; exact (Kd.dQ (Kd.iZ (p := ⟨dG, 1, none⟩) (Kd.iZ (p := ⟨dG, 0, none⟩) (Kd.dQ iO.out (fun k_ hk => (⟨hk, hk.1.1.1.2⟩ : _ ∧ k_ ≠ dG))) (fun _ hk => hk.2) (.slice WQ zN.length XM)) (fun _ hk => hk.2) (.slice ZM FD.length Ap)) (fun _ h_ => h_.1))) hb) (Kd.bT eH)) kN) (fun _ h_ => h_.1)); replace lD := am (aX (g := fK) (o := .cells #[.int .i64 ((dA bM bR).f0), .string ((dA bM bR).f1), .slice l8 ((dA bM bR).f2).length lI] 31 (0, 0)) NV hb); replace fC := am (aX (g := dG) (o := .cells #[.slice WQ zN.length XM, .slice ZM FD.length Ap] 26 (0, 0)) (qP fC) hb); replace jF := am (aX (g := eD) (o := .cells #[.slice jL bD.length jC, .slice kF bG.length jP] 26 (0, 0)) Cp hb); replace HB := bS yP hb; clear hb eH lW; obtain ⟨uz, a0T, aDL⟩ := Kd.cZ ZV.1; subst aDL; have Z70 := cz2 jF; obtain ⟨va, a0U, aDM⟩ := Kd.gM ZW.1; subst aDM))
      go_meet
      case rel => exact ⟨_, (Tw), (a3P), (zN), (FD), (IU), (Gp), (.slice WQ zN.length XM), (.slice ZM FD.length Ap), (.slice uz IU.length a0T), (.slice va Gp.length a0U), dU, dU, H', ⟨by have := HK1.out; first | omega | exact Nat.le_refl _⟩, ⟨by refine rN ?_; exact Kd.aJ (fN (fN (Kd.aJ iG.1 (fun k_ hk => (⟨hk, hk.1.1.1.1.2⟩ : _ ∧ k_ ≠ eD))))) (fun _ hk => ⟨hk.1.1.1.1.1.1.1.1.1, ⟨hk.1.1.1.1.1.1.1.1.2.1, ⟨hk.1.1.1.1.2, ⟨hk.1.1.1.2, ⟨hk.1.1.2, ⟨hk.1.2, ⟨hk.1.1.1.1.1.1.1.1.2.2, ⟨hk.1.1.1.1.1.1.2, hk.1.1.1.1.1.2⟩⟩⟩⟩⟩⟩⟩⟩)⟩, ⟨mR aH jF⟩, ⟨by refine rN ?_; exact Kd.aJ (fN (fN (Kd.aJ aD.1 (fun k_ hk => (⟨hk, hk.1.1.1.1.2⟩ : _ ∧ k_ ≠ eD))))) (fun _ hk => ⟨hk.1.1.1.1.1.1.1.1.1, ⟨hk.1.1.1.1.1.1.1.1.2.1, ⟨hk.1.1.1.1.2, ⟨hk.1.1.2, ⟨hk.1.1.1.1.1.1.1.1.2.2, ⟨hk.1.1.1.1.1.1.2, hk.1.1.1.1.1.2⟩⟩⟩⟩⟩⟩)⟩, ⟨mR vG jF⟩, ⟨by refine rN ?_; exact Kd.aJ (fN (fN (Kd.aJ y5.1 (fun k_ hk => (⟨hk, hk.1.1.2.2.2.2.2.2.2⟩ : _ ∧ k_ ≠ eD))))) (fun _ hk => ⟨hk.1.1.1.2.1, ⟨hk.1.1.1.2.2.1, ⟨hk.1.1.1.1, ⟨hk.1.1.2, ⟨hk.1.1.1.2.2.2.2.1, ⟨hk.1.1.1.2.2.2.2.2.2.1, hk.1.1.1.2.2.2.2.2.2.2⟩⟩⟩⟩⟩⟩)⟩, ⟨mR ZV jF⟩, ⟨by refine rN ?_; exact Kd.aJ (fN (fN (Kd.aJ ZW.1 (fun k_ hk => (⟨hk, hk.2.2.2.2.2.2.2.2.2⟩ : _ ∧ k_ ≠ eD))))) (fun _ hk => ⟨hk.1.2.1, ⟨hk.1.2.2.1, ⟨hk.1.2.2.2.2.1, ⟨hk.1.1, ⟨hk.1.2.2.2.2.2.2.1, ⟨hk.1.2.2.2.2.2.2.2.2.1, hk.1.2.2.2.2.2.2.2.2.2⟩⟩⟩⟩⟩⟩)⟩, ⟨qF aV qC⟩, ⟨qF fC qD⟩, ⟨qP jF⟩, ⟨(Kd.mF (by refine rV ?_; exact (Kd.dQ (Kd.iZ (p := ⟨eD, 1, none⟩) (Kd.iZ (p := ⟨eD, 0, none⟩) (Kd.dQ iO.out (fun k_ hk => (⟨hk, hk.1.1.1.1.2⟩ : _ ∧ k_ ≠ eD))) (fun _ hk => hk.2) (.slice uz IU.length a0T)) (fun _ hk => hk.2) (.slice va Gp.length a0U)) (fun _ h_ => h_.1)))).2.2⟩, ⟨yP⟩⟩
     ·refine iq H ?_ ?_ <;> clear H <;> intro c72 aKQ aKR H
      ·obtain ⟨⟨O4, UX, Yj⟩, A73, H⟩ := bd H
       dsimp only at H
       obtain ⟨⟨Yk, Yl, a3Q⟩, A74, H⟩ := bd H
       dsimp only at H
       have H' := am H
       repeat clear H
       have Z75 := nZ3 xN EO vX z8 qC zA
       have Z78 := cz2 aV
       have Z79 := nZ2 tD vY z7 EP
       have Z81 := cz3 lD
       go_wp2_with (first | ((with_reducible refine kV (f := 9) rfl ?_); refine uN (some 101) rfl rfl Tryz.func9 (by kernel_rfl) rfl #[.agg #[.slice jL bD.length jC, .slice kF bG.length jP], .string ((dA bM bR).f1), .slice l8 ((dA bM bR).f2).length lI] rfl AS ?_; (with_reducible refine (qO.calls k1 _ _ bD _ _ bG ((dA bM bR).f1) _ _ ((dA bM bR).f2) O4 UX Yj _ ?side1 ?side2 ?side3 ?side4 ?side5 ?side6 A73.out).mono ?_); (case side1 => refine (Kd.bH (e := 9) (base := w.heap.size) (ok := fun k_ => True) (n := bD.length) (c := jC) ?_).2.2; exact (by refine rR ?_; exact (Kd.aT (fR (fR (tR aH jF))) (fun _ h_ => h_.1)))); (case side2 => exact (Kd.bH aH.1).2.1); (case side3 => refine (Kd.d9 (e := 52) (base := w.heap.size) (ok := fun k_ => ((((some k_ ≠ (.slice (some qZ) bM.length EB : Value).ownBlock ∧ (some k_ ≠ (.slice jL bD.length jC : Value).ownBlock ∧ k_ ≠ bC)) ∧ k_ ≠ fK) ∧ k_ ≠ dG) ∧ k_ ≠ eD)) (n := bG.length) (c := jP) ?_).2.2; exact (by refine rN ?_; exact (Kd.aJ (fN (fN (Kd.aJ aD.1 (fun k_ hk => (⟨hk, hk.2⟩ : _ ∧ k_ ≠ eD))))) (fun _ h_ => h_.1)))); (case side4 => exact (Kd.d9 aD.1).2.1); (case side5 => exact ((Kd.mF (by refine rV ?_; exact (Kd.dQ (Kd.iZ (p := ⟨eD, 1, none⟩) (Kd.iZ (p := ⟨eD, 0, none⟩) (Kd.dQ iO.out (fun k_ hk => (⟨hk, hk.2⟩ : _ ∧ k_ ≠ eD))) (fun _ hk => hk.2) (.slice jL bD.length jC)) (fun _ hk => hk.2) (.slice kF bG.length jP)) (fun _ h_ => h_.1)))).2.2)); (case side6 => exact xZ.1); rintro e w82 ⟨a4C, Ys, rfl, eH, lW, hb⟩; refine ⟨_, rfl, ?_⟩; have MI := am (Kd.dO (Kd.fF eH (Kd.R_lt (by refine rR ?_; exact (Kd.aT (fR (fR (tR aH jF))) (fun _ h_ => h_.1))))) (aG yP)); have GU := am (Kd.jK (Kd.aJ (ok' := fun k_ => some k_ ≠ (a4C : Value).ownBlock ∧ some k_ ≠ (.slice (some qZ) bM.length EB : Value).ownBlock ∧ some k_ ≠ (.slice jL bD.length jC : Value).ownBlock ∧ some k_ ≠ (.slice kF bG.length jP : Value).ownBlock ∧ k_ ≠ bC ∧ k_ ≠ fK ∧ k_ ≠ dG ∧ k_ ≠ eD) (Kd.S_N (Kd.lG lW)) (fun k_ hk_ => ⟨hk_.1, (Kd.fresh' (Kd.N_lt (by refine rN ?_; exact (Kd.aJ (fN (fN (Kd.aJ iG.1 (fun k_ hk => (⟨hk, hk.2⟩ : _ ∧ k_ ≠ eD))))) (fun _ h_ => h_.1)))) k_ hk_.2.1), (Kd.fresh' (Kd.R_lt (by refine rR ?_; exact (Kd.aT (fR (fR (tR aH jF))) (fun _ h_ => h_.1)))) k_ hk_.2.1), (Kd.fresh' (Kd.N_lt (by refine rN ?_; exact (Kd.aJ (fN (fN (Kd.aJ aD.1 (fun k_ hk => (⟨hk, hk.2⟩ : _ ∧ k_ ≠ eD))))) (fun _ h_ => h_.1)))) k_ hk_.2.1), (Kd.jD (g := bC) (o := .cells #[.slice jL bD.length jC, .slice kF bG.length jP] 26 (0, 0)) Cm k_ hk_.2.1), (Kd.jD (g := fK) (o := .cells #[.int .i64 ((dA bM bR).f0), .string ((dA bM bR).f1), .slice l8 ((dA bM bR).f2).length lI] 31 (0, 0)) Cn k_ hk_.2.1), (Kd.jD (g := dG) (o := .cells #[.slice jL bD.length jC, .slice kF bG.length jP] 26 (0, 0)) Co k_ hk_.2.1), (Kd.jD (g := eD) (o := .cells #[.slice jL bD.length jC, .slice kF bG.length jP] 26 (0, 0)) (qP jF) k_ hk_.2.1)⟩)) (aG yP)); replace iG := am (Kd.aJ (Kd.eY (Kd.eY (Kd.mZ (by refine rN ?_; exact (Kd.aJ (fN (fN (Kd.aJ iG.1 (fun k_ hk => (⟨hk, hk.2⟩ : _ ∧ k_ ≠ eD))))) (fun _ h_ => h_.1))) hb) (Kd.bT eH)) kN) (fun _ h_ => h_.1)); replace aH := am (Kd.dV (by refine rR ?_; exact (Kd.aT (fR (fR (tR aH jF))) (fun _ h_ => h_.1))) (Kd.bT eH) hb); replace aD := am (Kd.aJ (Kd.eY (Kd.eY (Kd.mZ (by refine rN ?_; exact (Kd.aJ (fN (fN (Kd.aJ aD.1 (fun k_ hk => (⟨hk, hk.2⟩ : _ ∧ k_ ≠ eD))))) (fun _ h_ => h_.1))) hb) (Kd.bT eH)) kN) (fun _ h_ => h_.1)); replace aV := am (aX (g := bC) (o := .cells #[.slice jL bD.length jC, .slice kF bG.length jP] 26 (0, 0)) Cm hb); replace kZ := am (Kd.aU ((Kd.mF (by refine rV ?_; exact (Kd.dQ (Kd.iZ (p := ⟨eD, 1, none⟩) (Kd.iZ (p := ⟨eD, 0, none⟩) (Kd.dQ iO.out (fun k_ hk => (⟨hk, hk.2⟩ : _ ∧ k_ ≠ eD))) (fun _ hk => hk.2) (.slice jL bD.length jC)) (fun _ hk => hk.2) (.slice kF bG.length jP)) (fun _ h_ => h_.1)))).2.2) hb); replace iO := am (Kd.dQ (Kd.nU (Kd.nU (Kd.DK (by refine rV ?_; exact (Kd.dQ (Kd.iZ (p := ⟨eD, 1, none⟩) (Kd.iZ (p := ⟨eD, 0, none⟩) (Kd.dQ iO.out (fun k_ hk => (⟨hk, hk.2⟩ : _ ∧ k_ ≠ eD))) (fun _ hk => hk.2) (.slice jL bD.length jC)) (fun _ hk => hk.2) (.slice kF bG.length jP)) (fun _ h_ => h_.1))) hb) (Kd.bT eH)) kN) (fun _ h_ => h_.1)); replace lD := am (aX (g := fK) (o := .cells #[.int .i64 ((dA bM bR).f0), .string ((dA bM bR).f1), .slice l8 ((dA bM bR).f2).length lI] 31 (0, 0)) Cn hb); replace fC := am (aX (g := dG) (o := .cells #[.slice jL bD.length jC, .slice kF bG.length jP] 26 (0, 0)) Co hb); replace jF := am (aX (g := eD) (o := .cells #[.slice jL bD.length jC, .slice kF bG.length jP] 26 (0, 0)) (qP jF) hb); replace HB := bS yP hb; clear hb eH lW; obtain ⟨WR, XN, aDP⟩ := Kd.cZ MI.1; subst aDP; have Z84 := nZ1 qD vZ; have Z85 := cz2 fC; obtain ⟨ZN, Aq, aDQ⟩ := Kd.gM GU.1; subst aDQ; have Z87 := cz2 aV; have Z88 := cz3 lD) | ((with_reducible refine kV (f := 10) rfl ?_); refine uN (some 110) rfl rfl Tryz.func10 (by kernel_rfl) rfl #[.agg #[.slice jL bD.length jC, .slice kF bG.length jP], .string ((dA bM bR).f1), .slice l8 ((dA bM bR).f2).length lI] rfl AS ?_; (with_reducible refine (eT.calls k1 _ _ bD _ _ bG ((dA bM bR).f1) _ _ ((dA bM bR).f2) Yk Yl a3Q _ ?side1 ?side2 ?side3 ?side4 ?side5 ?side6 A74.out).mono ?_); (case side1 => refine (Kd.bH (e := 9) (base := w.heap.size) (ok := fun k_ => some k_ ≠ (.slice WR O4.length XN : Value).ownBlock) (n := bD.length) (c := jC) ?_).2.2; exact (by refine rR ?_; exact Kd.aT (fR (fR (tR aH fC))) (fun _ hk => hk.1.2))); (case side2 => exact (Kd.bH aH.1).2.1); (case side3 => refine (Kd.d9 (e := 52) (base := w.heap.size) (ok := fun k_ => ((((((some k_ ≠ (.slice (some qZ) bM.length EB : Value).ownBlock ∧ (some k_ ≠ (.slice jL bD.length jC : Value).ownBlock ∧ k_ ≠ bC)) ∧ k_ ≠ fK) ∧ k_ ≠ dG) ∧ k_ ≠ eD) ∧ some k_ ≠ (.slice WR O4.length XN : Value).ownBlock) ∧ some k_ ≠ (.slice ZN UX.length Aq : Value).ownBlock)) (n := bG.length) (c := jP) ?_).2.2; exact (by refine rN ?_; exact (Kd.aJ (fN (fN (Kd.aJ aD.1 (fun k_ hk => (⟨hk, hk.1.1.1.2⟩ : _ ∧ k_ ≠ dG))))) (fun _ h_ => h_.1)))); (case side4 => exact (Kd.d9 aD.1).2.1); (case side5 => exact ((Kd.mF (by refine rV ?_; exact (Kd.dQ (Kd.iZ (p := ⟨dG, 1, none⟩) (Kd.iZ (p := ⟨dG, 0, none⟩) (Kd.dQ iO.out (fun k_ hk => (⟨hk, hk.1.1.1.2⟩ : _ ∧ k_ ≠ dG))) (fun _ hk => hk.2) (.slice WR O4.length XN)) (fun _ hk => hk.2) (.slice ZN UX.length Aq)) (fun _ h_ => h_.1)))).2.2)); (case side6 => exact xZ.1); rintro e w89 ⟨aFO, aTN, rfl, eH, lW, hb⟩; refine ⟨_, rfl, ?_⟩; have Zq := am (Kd.dO (Kd.fF (Kd.fF (Kd.aT (ok' := fun k_ => True) eH (fun _ hk_ => trivial)) (Kd.R_lt (by refine rR ?_; exact (Kd.aT (fR (fR (tR aH fC))) (fun _ h_ => h_.1))))) (Kd.R_lt (by refine rR ?_; exact (Kd.aT (fR (fR (tR MI fC))) (fun _ h_ => h_.1))))) (aG yP)); have Zr := am (Kd.jK (Kd.aJ (ok' := fun k_ => some k_ ≠ (aFO : Value).ownBlock ∧ some k_ ≠ (.slice (some qZ) bM.length EB : Value).ownBlock ∧ some k_ ≠ (.slice jL bD.length jC : Value).ownBlock ∧ some k_ ≠ (.slice kF bG.length jP : Value).ownBlock ∧ some k_ ≠ (.slice WR O4.length XN : Value).ownBlock ∧ some k_ ≠ (.slice ZN UX.length Aq : Value).ownBlock ∧ k_ ≠ bC ∧ k_ ≠ fK ∧ k_ ≠ dG ∧ k_ ≠ eD) lW (fun k_ hk_ => ⟨hk_.2, (Kd.fresh' (Kd.N_lt (by refine rN ?_; exact (Kd.aJ (fN (fN (Kd.aJ iG.1 (fun k_ hk => (⟨hk, hk.1.1.1.2⟩ : _ ∧ k_ ≠ dG))))) (fun _ h_ => h_.1)))) k_ hk_.1), (Kd.fresh' (Kd.R_lt (by refine rR ?_; exact (Kd.aT (fR (fR (tR aH fC))) (fun _ h_ => h_.1)))) k_ hk_.1), (Kd.fresh' (Kd.N_lt (by refine rN ?_; exact (Kd.aJ (fN (fN (Kd.aJ aD.1 (fun k_ hk => (⟨hk, hk.1.1.1.2⟩ : _ ∧ k_ ≠ dG))))) (fun _ h_ => h_.1)))) k_ hk_.1), (Kd.fresh' (Kd.R_lt (by refine rR ?_; exact (Kd.aT (fR (fR (tR MI fC))) (fun _ h_ => h_.1)))) k_ hk_.1), (Kd.fresh' (Kd.N_lt (by refine rN ?_; exact (Kd.aJ (fN (fN (Kd.aJ GU.1 (fun k_ hk => (⟨hk, hk.2.2.2.2.2.2.1⟩ : _ ∧ k_ ≠ dG))))) (fun _ h_ => h_.1)))) k_ hk_.1), (Kd.jD (g := bC) (o := .cells #[.slice jL bD.length jC, .slice kF bG.length jP] 26 (0, 0)) TT k_ hk_.1), (Kd.jD (g := fK) (o := .cells #[.int .i64 ((dA bM bR).f0), .string ((dA bM bR).f1), .slice l8 ((dA bM bR).f2).length lI] 31 (0, 0)) NV k_ hk_.1), (Kd.jD (g := dG) (o := .cells #[.slice WR O4.length XN, .slice ZN UX.length Aq] 26 (0, 0)) (qP fC) k_ hk_.1), (Kd.jD (g := eD) (o := .cells #[.slice jL bD.length jC, .slice kF bG.length jP] 26 (0, 0)) Cp k_ hk_.1)⟩)) (aG yP)); replace iG := am (Kd.aJ (Kd.eY (Kd.eY (Kd.mZ (by refine rN ?_; exact (Kd.aJ (fN (fN (Kd.aJ iG.1 (fun k_ hk => (⟨hk, hk.1.1.1.2⟩ : _ ∧ k_ ≠ dG))))) (fun _ h_ => h_.1))) hb) (Kd.bT eH)) kN) (fun _ h_ => h_.1)); replace aH := am (Kd.dV (by refine rR ?_; exact (Kd.aT (fR (fR (tR aH fC))) (fun _ h_ => h_.1))) (Kd.bT eH) hb); replace aD := am (Kd.aJ (Kd.eY (Kd.eY (Kd.mZ (by refine rN ?_; exact (Kd.aJ (fN (fN (Kd.aJ aD.1 (fun k_ hk => (⟨hk, hk.1.1.1.2⟩ : _ ∧ k_ ≠ dG))))) (fun _ h_ => h_.1))) hb) (Kd.bT eH)) kN) (fun _ h_ => h_.1)); replace MI := am (Kd.dV (by refine rR ?_; exact (Kd.aT (fR (fR (tR MI fC))) (fun _ h_ => h_.1))) (Kd.bT eH) hb); replace GU := am (Kd.aJ (Kd.eY (Kd.eY (Kd.mZ (by refine rN ?_; exact (Kd.aJ (fN (fN (Kd.aJ GU.1 (fun k_ hk => (⟨hk, hk.2.2.2.2.2.2.1⟩ : _ ∧ k_ ≠ dG))))) (fun _ h_ => h_.1))) hb) (Kd.bT eH)) kN) (fun _ h_ => h_.1)); replace aV := am (aX (g := bC) (o := .cells #[.slice jL bD.length jC, .slice kF bG.length jP] 26 (0, 0)) TT hb); replace kZ := am (Kd.aU ((Kd.mF (by refine rV ?_; exact (Kd.dQ (Kd.iZ (p := ⟨dG, 1, none⟩) (Kd.iZ (p := ⟨dG, 0, none⟩) (Kd.dQ iO.out (fun k_ hk => (⟨hk, hk.1.1.1.2⟩ : _ ∧ k_ ≠ dG))) (fun _ hk => hk.2) (.slice WR O4.length XN)) (fun _ hk => hk.2) (.slice ZN UX.length Aq)) (fun _ h_ => h_.1)))).2.2) hb); replace iO := am (Kd.dQ (Kd.nU (Kd.nU (Kd.DK (by refine rV ?_; exact (Kd.dQ (Kd.iZ (p := ⟨dG, 1, none⟩) (Kd.iZ (p := ⟨dG, 0, none⟩) (Kd.dQ iO.out (fun k_ hk => (⟨hk, hk.1.1.1.2⟩ : _ ∧ k_ ≠ dG))) (fun _ hk => hk.2) (.slice WR O4.length XN)) (fun _ hk => hk.2) (.slice ZN UX.length Aq)) (fun _ h_ => h_.1))) hb) (Kd.bT eH)) kN) (fun _ h_ => h_.1)); replace lD := am (aX (g := fK) (o := .cells #[.int .i64 ((dA bM bR).f0), .string ((dA bM bR).f1), .slice l8 ((dA bM bR).f2).length lI] 31 (0, 0)) NV hb); replace fC := am (aX (g := dG) (o := .cells #[.slice WR O4.length XN, .slice ZN UX.length Aq] 26 (0, 0)) (qP fC) hb); replace jF := am (aX (g := eD) (o := .cells #[.slice jL bD.length jC, .slice kF bG.length jP] 26 (0, 0)) Cp hb); replace HB := bS yP hb; clear hb eH lW; obtain ⟨vb, a0V, aDT⟩ := Kd.cZ Zq.1; subst aDT; have Z91 := cz2 jF; obtain ⟨vc, a0W, aDU⟩ := Kd.gM Zr.1; subst aDU))
       go_meet
       case rel => exact ⟨_, (Yj), (a3Q), (O4), (UX), (Yk), (Yl), (.slice WR O4.length XN), (.slice ZN UX.length Aq), (.slice vb Yk.length a0V), (.slice vc Yl.length a0W), dU, dU, H', ⟨by have := HK1.out; first | omega | exact Nat.le_refl _⟩, ⟨by refine rN ?_; exact Kd.aJ (fN (fN (Kd.aJ iG.1 (fun k_ hk => (⟨hk, hk.1.1.1.1.2⟩ : _ ∧ k_ ≠ eD))))) (fun _ hk => ⟨hk.1.1.1.1.1.1.1.1.1, ⟨hk.1.1.1.1.1.1.1.1.2.1, ⟨hk.1.1.1.1.2, ⟨hk.1.1.1.2, ⟨hk.1.1.2, ⟨hk.1.2, ⟨hk.1.1.1.1.1.1.1.1.2.2, ⟨hk.1.1.1.1.1.1.2, hk.1.1.1.1.1.2⟩⟩⟩⟩⟩⟩⟩⟩)⟩, ⟨mR aH jF⟩, ⟨by refine rN ?_; exact Kd.aJ (fN (fN (Kd.aJ aD.1 (fun k_ hk => (⟨hk, hk.1.1.1.1.2⟩ : _ ∧ k_ ≠ eD))))) (fun _ hk => ⟨hk.1.1.1.1.1.1.1.1.1, ⟨hk.1.1.1.1.1.1.1.1.2.1, ⟨hk.1.1.1.1.2, ⟨hk.1.1.2, ⟨hk.1.1.1.1.1.1.1.1.2.2, ⟨hk.1.1.1.1.1.1.2, hk.1.1.1.1.1.2⟩⟩⟩⟩⟩⟩)⟩, ⟨mR MI jF⟩, ⟨by refine rN ?_; exact Kd.aJ (fN (fN (Kd.aJ GU.1 (fun k_ hk => (⟨hk, hk.1.1.2.2.2.2.2.2.2⟩ : _ ∧ k_ ≠ eD))))) (fun _ hk => ⟨hk.1.1.1.2.1, ⟨hk.1.1.1.2.2.1, ⟨hk.1.1.1.1, ⟨hk.1.1.2, ⟨hk.1.1.1.2.2.2.2.1, ⟨hk.1.1.1.2.2.2.2.2.2.1, hk.1.1.1.2.2.2.2.2.2.2⟩⟩⟩⟩⟩⟩)⟩, ⟨mR Zq jF⟩, ⟨by refine rN ?_; exact Kd.aJ (fN (fN (Kd.aJ Zr.1 (fun k_ hk => (⟨hk, hk.2.2.2.2.2.2.2.2.2⟩ : _ ∧ k_ ≠ eD))))) (fun _ hk => ⟨hk.1.2.1, ⟨hk.1.2.2.1, ⟨hk.1.2.2.2.2.1, ⟨hk.1.1, ⟨hk.1.2.2.2.2.2.2.1, ⟨hk.1.2.2.2.2.2.2.2.2.1, hk.1.2.2.2.2.2.2.2.2.2⟩⟩⟩⟩⟩⟩)⟩, ⟨qF aV qC⟩, ⟨qF fC qD⟩, ⟨qP jF⟩, ⟨(Kd.mF (by refine rV ?_; exact (Kd.dQ (Kd.iZ (p := ⟨eD, 1, none⟩) (Kd.iZ (p := ⟨eD, 0, none⟩) (Kd.dQ iO.out (fun k_ hk => (⟨hk, hk.1.1.1.1.2⟩ : _ ∧ k_ ≠ eD))) (fun _ hk => hk.2) (.slice vb Yk.length a0V)) (fun _ hk => hk.2) (.slice vc Yl.length a0W)) (fun _ h_ => h_.1)))).2.2⟩, ⟨yP⟩⟩
      ·obtain ⟨⟨FE, ZC, a3R⟩, A93, H⟩ := bd H
       dsimp only at H
       obtain ⟨⟨Ym, Yn, a3S⟩, A94, H⟩ := bd H
       dsimp only at H
       have H' := am H
       repeat clear H
       have Z95 := nZ3 xN EO vX z8 qC zA
       have Z98 := cz2 aV
       have Z99 := nZ2 tD vY z7 EP
       have aB5 := cz3 lD
       go_wp2_with (first | ((with_reducible refine kV (f := 11) rfl ?_); refine uN (some 43) rfl rfl Tryz.func11 (by kernel_rfl) rfl #[.agg #[.slice jL bD.length jC, .slice kF bG.length jP], .string ((dA bM bR).f1)] rfl AS ?_; (with_reducible refine (lK.calls k1 _ _ bD _ _ bG ((dA bM bR).f1) FE ZC a3R _ ?side1 ?side2 ?side3 ?side4 A93.out).mono ?_); (case side1 => refine (Kd.bH (e := 9) (base := w.heap.size) (ok := fun k_ => True) (n := bD.length) (c := jC) ?_).2.2; exact (by refine rR ?_; exact (Kd.aT (fR (fR (tR aH jF))) (fun _ h_ => h_.1)))); (case side2 => exact (Kd.bH aH.1).2.1); (case side3 => refine (Kd.d9 (e := 52) (base := w.heap.size) (ok := fun k_ => ((((some k_ ≠ (.slice (some qZ) bM.length EB : Value).ownBlock ∧ (some k_ ≠ (.slice jL bD.length jC : Value).ownBlock ∧ k_ ≠ bC)) ∧ k_ ≠ fK) ∧ k_ ≠ dG) ∧ k_ ≠ eD)) (n := bG.length) (c := jP) ?_).2.2; exact (by refine rN ?_; exact (Kd.aJ (fN (fN (Kd.aJ aD.1 (fun k_ hk => (⟨hk, hk.2⟩ : _ ∧ k_ ≠ eD))))) (fun _ h_ => h_.1)))); (case side4 => exact (Kd.d9 aD.1).2.1); rintro e aFR ⟨a4D, Yu, rfl, eH, lW, hb⟩; refine ⟨_, rfl, ?_⟩; have HD := am (Kd.dO (Kd.fF eH (Kd.R_lt (by refine rR ?_; exact (Kd.aT (fR (fR (tR aH jF))) (fun _ h_ => h_.1))))) (aG yP)); have GV := am (Kd.jK (Kd.aJ (ok' := fun k_ => some k_ ≠ (a4D : Value).ownBlock ∧ some k_ ≠ (.slice (some qZ) bM.length EB : Value).ownBlock ∧ some k_ ≠ (.slice jL bD.length jC : Value).ownBlock ∧ some k_ ≠ (.slice kF bG.length jP : Value).ownBlock ∧ k_ ≠ bC ∧ k_ ≠ fK ∧ k_ ≠ dG ∧ k_ ≠ eD) (Kd.S_N (Kd.lG lW)) (fun k_ hk_ => ⟨hk_.1, (Kd.fresh' (Kd.N_lt (by refine rN ?_; exact (Kd.aJ (fN (fN (Kd.aJ iG.1 (fun k_ hk => (⟨hk, hk.2⟩ : _ ∧ k_ ≠ eD))))) (fun _ h_ => h_.1)))) k_ hk_.2.1), (Kd.fresh' (Kd.R_lt (by refine rR ?_; exact (Kd.aT (fR (fR (tR aH jF))) (fun _ h_ => h_.1)))) k_ hk_.2.1), (Kd.fresh' (Kd.N_lt (by refine rN ?_; exact (Kd.aJ (fN (fN (Kd.aJ aD.1 (fun k_ hk => (⟨hk, hk.2⟩ : _ ∧ k_ ≠ eD))))) (fun _ h_ => h_.1)))) k_ hk_.2.1), (Kd.jD (g := bC) (o := .cells #[.slice jL bD.length jC, .slice kF bG.length jP] 26 (0, 0)) Cm k_ hk_.2.1), (Kd.jD (g := fK) (o := .cells #[.int .i64 ((dA bM bR).f0), .string ((dA bM bR).f1), .slice l8 ((dA bM bR).f2).length lI] 31 (0, 0)) Cn k_ hk_.2.1), (Kd.jD (g := dG) (o := .cells #[.slice jL bD.length jC, .slice kF bG.length jP] 26 (0, 0)) Co k_ hk_.2.1), (Kd.jD (g := eD) (o := .cells #[.slice jL bD.length jC, .slice kF bG.length jP] 26 (0, 0)) (qP jF) k_ hk_.2.1)⟩)) (aG yP)); replace iG := am (Kd.aJ (Kd.eY (Kd.eY (Kd.mZ (by refine rN ?_; exact (Kd.aJ (fN (fN (Kd.aJ iG.1 (fun k_ hk => (⟨hk, hk.2⟩ : _ ∧ k_ ≠ eD))))) (fun _ h_ => h_.1))) hb) (Kd.bT eH)) kN) (fun _ h_ => h_.1)); replace aH := am (Kd.dV (by refine rR ?_; exact (Kd.aT (fR (fR (tR aH jF))) (fun _ h_ => h_.1))) (Kd.bT eH) hb); replace aD := am (Kd.aJ (Kd.eY (Kd.eY (Kd.mZ (by refine rN ?_; exact (Kd.aJ (fN (fN (Kd.aJ aD.1 (fun k_ hk => (⟨hk, hk.2⟩ : _ ∧ k_ ≠ eD))))) (fun _ h_ => h_.1))) hb) (Kd.bT eH)) kN) (fun _ h_ => h_.1)); replace aV := am (aX (g := bC) (o := .cells #[.slice jL bD.length jC, .slice kF bG.length jP] 26 (0, 0)) Cm hb); replace kZ := am (Kd.aU ((Kd.mF (by refine rV ?_; exact (Kd.dQ (Kd.iZ (p := ⟨eD, 1, none⟩) (Kd.iZ (p := ⟨eD, 0, none⟩) (Kd.dQ iO.out (fun k_ hk => (⟨hk, hk.2⟩ : _ ∧ k_ ≠ eD))) (fun _ hk => hk.2) (.slice jL bD.length jC)) (fun _ hk => hk.2) (.slice kF bG.length jP)) (fun _ h_ => h_.1)))).2.2) hb); replace iO := am (Kd.dQ (Kd.nU (Kd.nU (Kd.DK (by refine rV ?_; exact (Kd.dQ (Kd.iZ (p := ⟨eD, 1, none⟩) (Kd.iZ (p := ⟨eD, 0, none⟩) (Kd.dQ iO.out (fun k_ hk => (⟨hk, hk.2⟩ : _ ∧ k_ ≠ eD))) (fun _ hk => hk.2) (.slice jL bD.length jC)) (fun _ hk => hk.2) (.slice kF bG.length jP)) (fun _ h_ => h_.1))) hb) (Kd.bT eH)) kN) (fun _ h_ => h_.1)); replace lD := am (aX (g := fK) (o := .cells #[.int .i64 ((dA bM bR).f0), .string ((dA bM bR).f1), .slice l8 ((dA bM bR).f2).length lI] 31 (0, 0)) Cn hb); replace fC := am (aX (g := dG) (o := .cells #[.slice jL bD.length jC, .slice kF bG.length jP] 26 (0, 0)) Co hb); replace jF := am (aX (g := eD) (o := .cells #[.slice jL bD.length jC, .slice kF bG.length jP] 26 (0, 0)) (qP jF) hb); replace HB := bS yP hb; clear hb eH lW; obtain ⟨PT, Q5, a10⟩ := Kd.cZ HD.1; subst a10; have aB7 := nZ1 qD vZ; have aQT := cz2 fC; obtain ⟨MC, MS, Ir⟩ := Kd.gM GV.1; subst Ir; have aB8 := cz2 aV; have aQV := cz3 lD) | ((with_reducible refine kV (f := 12) rfl ?_); refine uN (some 50) rfl rfl Tryz.func12 (by kernel_rfl) rfl #[.agg #[.slice jL bD.length jC, .slice kF bG.length jP], .string ((dA bM bR).f1)] rfl AS ?_; (with_reducible refine (gI.calls k1 _ _ bD _ _ bG ((dA bM bR).f1) Ym Yn a3S _ ?side1 ?side2 ?side3 ?side4 A94.out).mono ?_); (case side1 => refine (Kd.bH (e := 9) (base := w.heap.size) (ok := fun k_ => some k_ ≠ (.slice PT FE.length Q5 : Value).ownBlock) (n := bD.length) (c := jC) ?_).2.2; exact (by refine rR ?_; exact Kd.aT (fR (fR (tR aH fC))) (fun _ hk => hk.1.2))); (case side2 => exact (Kd.bH aH.1).2.1); (case side3 => refine (Kd.d9 (e := 52) (base := w.heap.size) (ok := fun k_ => ((((((some k_ ≠ (.slice (some qZ) bM.length EB : Value).ownBlock ∧ (some k_ ≠ (.slice jL bD.length jC : Value).ownBlock ∧ k_ ≠ bC)) ∧ k_ ≠ fK) ∧ k_ ≠ dG) ∧ k_ ≠ eD) ∧ some k_ ≠ (.slice PT FE.length Q5 : Value).ownBlock) ∧ some k_ ≠ (.slice MC ZC.length MS : Value).ownBlock)) (n := bG.length) (c := jP) ?_).2.2; exact (by refine rN ?_; exact (Kd.aJ (fN (fN (Kd.aJ aD.1 (fun k_ hk => (⟨hk, hk.1.1.1.2⟩ : _ ∧ k_ ≠ dG))))) (fun _ h_ => h_.1)))); (case side4 => exact (Kd.d9 aD.1).2.1); rintro e aFU ⟨aFP, aTO, rfl, eH, lW, hb⟩; refine ⟨_, rfl, ?_⟩; have Zs := am (Kd.dO (Kd.fF (Kd.fF (Kd.aT (ok' := fun k_ => True) eH (fun _ hk_ => trivial)) (Kd.R_lt (by refine rR ?_; exact (Kd.aT (fR (fR (tR aH fC))) (fun _ h_ => h_.1))))) (Kd.R_lt (by refine rR ?_; exact (Kd.aT (fR (fR (tR HD fC))) (fun _ h_ => h_.1))))) (aG yP)); have Zt := am (Kd.jK (Kd.aJ (ok' := fun k_ => some k_ ≠ (aFP : Value).ownBlock ∧ some k_ ≠ (.slice (some qZ) bM.length EB : Value).ownBlock ∧ some k_ ≠ (.slice jL bD.length jC : Value).ownBlock ∧ some k_ ≠ (.slice kF bG.length jP : Value).ownBlock ∧ some k_ ≠ (.slice PT FE.length Q5 : Value).ownBlock ∧ some k_ ≠ (.slice MC ZC.length MS : Value).ownBlock ∧ k_ ≠ bC ∧ k_ ≠ fK ∧ k_ ≠ dG ∧ k_ ≠ eD) lW (fun k_ hk_ => ⟨hk_.2, (Kd.fresh' (Kd.N_lt (by refine rN ?_; exact (Kd.aJ (fN (fN (Kd.aJ iG.1 (fun k_ hk => (⟨hk, hk.1.1.1.2⟩ : _ ∧ k_ ≠ dG))))) (fun _ h_ => h_.1)))) k_ hk_.1), (Kd.fresh' (Kd.R_lt (by refine rR ?_; exact (Kd.aT (fR (fR (tR aH fC))) (fun _ h_ => h_.1)))) k_ hk_.1), (Kd.fresh' (Kd.N_lt (by refine rN ?_; exact (Kd.aJ (fN (fN (Kd.aJ aD.1 (fun k_ hk => (⟨hk, hk.1.1.1.2⟩ : _ ∧ k_ ≠ dG))))) (fun _ h_ => h_.1)))) k_ hk_.1), (Kd.fresh' (Kd.R_lt (by refine rR ?_; exact (Kd.aT (fR (fR (tR HD fC))) (fun _ h_ => h_.1)))) k_ hk_.1), (Kd.fresh' (Kd.N_lt (by refine rN ?_; exact (Kd.aJ (fN (fN (Kd.aJ GV.1 (fun k_ hk => (⟨hk, hk.2.2.2.2.2.2.1⟩ : _ ∧ k_ ≠ dG))))) (fun _ h_ => h_.1)))) k_ hk_.1), (Kd.jD (g := bC) (o := .cells #[.slice jL bD.length jC, .slice kF bG.length jP] 26 (0, 0)) TT k_ hk_.1), (Kd.jD (g := fK) (o := .cells #[.int .i64 ((dA bM bR).f0), .string ((dA bM bR).f1), .slice l8 ((dA bM bR).f2).length lI] 31 (0, 0)) NV k_ hk_.1), (Kd.jD (g := dG) (o := .cells #[.slice PT FE.length Q5, .slice MC ZC.length MS] 26 (0, 0)) (qP fC) k_ hk_.1), (Kd.jD (g := eD) (o := .cells #[.slice jL bD.length jC, .slice kF bG.length jP] 26 (0, 0)) Cp k_ hk_.1)⟩)) (aG yP)); replace iG := am (Kd.aJ (Kd.eY (Kd.eY (Kd.mZ (by refine rN ?_; exact (Kd.aJ (fN (fN (Kd.aJ iG.1 (fun k_ hk => (⟨hk, hk.1.1.1.2⟩ : _ ∧ k_ ≠ dG))))) (fun _ h_ => h_.1))) hb) (Kd.bT eH)) kN) (fun _ h_ => h_.1)); replace aH := am (Kd.dV (by refine rR ?_; exact (Kd.aT (fR (fR (tR aH fC))) (fun _ h_ => h_.1))) (Kd.bT eH) hb); replace aD := am (Kd.aJ (Kd.eY (Kd.eY (Kd.mZ (by refine rN ?_; exact (Kd.aJ (fN (fN (Kd.aJ aD.1 (fun k_ hk => (⟨hk, hk.1.1.1.2⟩ : _ ∧ k_ ≠ dG))))) (fun _ h_ => h_.1))) hb) (Kd.bT eH)) kN) (fun _ h_ => h_.1)); replace HD := am (Kd.dV (by refine rR ?_; exact (Kd.aT (fR (fR (tR HD fC))) (fun _ h_ => h_.1))) (Kd.bT eH) hb); replace GV := am (Kd.aJ (Kd.eY (Kd.eY (Kd.mZ (by refine rN ?_; exact (Kd.aJ (fN (fN (Kd.aJ GV.1 (fun k_ hk => (⟨hk, hk.2.2.2.2.2.2.1⟩ : _ ∧ k_ ≠ dG))))) (fun _ h_ => h_.1))) hb) (Kd.bT eH)) kN) (fun _ h_ => h_.1)); replace aV := am (aX (g := bC) (o := .cells #[.slice jL bD.length jC, .slice kF bG.length jP] 26 (0, 0)) TT hb); replace kZ := am (Kd.aU ((Kd.mF (by refine rV ?_; exact (Kd.dQ (Kd.iZ (p := ⟨dG, 1, none⟩) (Kd.iZ (p := ⟨dG, 0, none⟩) (Kd.dQ iO.out (fun k_ hk => (⟨hk, hk.1.1.1.2⟩ : _ ∧ k_ ≠ dG))) (fun _ hk => hk.2) (.slice PT FE.length Q5)) (fun _ hk => hk.2) (.slice MC ZC.length MS)) (fun _ h_ => h_.1)))).2.2) hb); replace iO := am (Kd.dQ (Kd.nU (Kd.nU (Kd.DK (by refine rV ?_; exact (Kd.dQ (Kd.iZ (p := ⟨dG, 1, none⟩) (Kd.iZ (p := ⟨dG, 0, none⟩) (Kd.dQ iO.out (fun k_ hk => (⟨hk, hk.1.1.1.2⟩ : _ ∧ k_ ≠ dG))) (fun _ hk => hk.2) (.slice PT FE.length Q5)) (fun _ hk => hk.2) (.slice MC ZC.length MS)) (fun _ h_ => h_.1))) hb) (Kd.bT eH)) kN) (fun _ h_ => h_.1)); replace lD := am (aX (g := fK) (o := .cells #[.int .i64 ((dA bM bR).f0), .string ((dA bM bR).f1), .slice l8 ((dA bM bR).f2).length lI] 31 (0, 0)) NV hb); replace fC := am (aX (g := dG) (o := .cells #[.slice PT FE.length Q5, .slice MC ZC.length MS] 26 (0, 0)) (qP fC) hb); replace jF := am (aX (g := eD) (o := .cells #[.slice jL bD.length jC, .slice kF bG.length jP] 26 (0, 0)) Cp hb); replace HB := bS yP hb; clear hb eH lW; obtain ⟨Ze, bu, a11⟩ := Kd.cZ Zs.1; subst a11; have yn := cz2 jF; obtain ⟨Zf, bv, a13⟩ := Kd.gM Zt.1; subst a13))
       go_meet
       case rel => exact ⟨_, (a3R), (a3S), (FE), (ZC), (Ym), (Yn), (.slice PT FE.length Q5), (.slice MC ZC.length MS), (.slice Ze Ym.length bu), (.slice Zf Yn.length bv), dU, dU, H', ⟨by have := HK1.out; first | omega | exact Nat.le_refl _⟩, ⟨by refine rN ?_; exact Kd.aJ (fN (fN (Kd.aJ iG.1 (fun k_ hk => (⟨hk, hk.1.1.1.1.2⟩ : _ ∧ k_ ≠ eD))))) (fun _ hk => ⟨hk.1.1.1.1.1.1.1.1.1, ⟨hk.1.1.1.1.1.1.1.1.2.1, ⟨hk.1.1.1.1.2, ⟨hk.1.1.1.2, ⟨hk.1.1.2, ⟨hk.1.2, ⟨hk.1.1.1.1.1.1.1.1.2.2, ⟨hk.1.1.1.1.1.1.2, hk.1.1.1.1.1.2⟩⟩⟩⟩⟩⟩⟩⟩)⟩, ⟨mR aH jF⟩, ⟨by refine rN ?_; exact Kd.aJ (fN (fN (Kd.aJ aD.1 (fun k_ hk => (⟨hk, hk.1.1.1.1.2⟩ : _ ∧ k_ ≠ eD))))) (fun _ hk => ⟨hk.1.1.1.1.1.1.1.1.1, ⟨hk.1.1.1.1.1.1.1.1.2.1, ⟨hk.1.1.1.1.2, ⟨hk.1.1.2, ⟨hk.1.1.1.1.1.1.1.1.2.2, ⟨hk.1.1.1.1.1.1.2, hk.1.1.1.1.1.2⟩⟩⟩⟩⟩⟩)⟩, ⟨mR HD jF⟩, ⟨by refine rN ?_; exact Kd.aJ (fN (fN (Kd.aJ GV.1 (fun k_ hk => (⟨hk, hk.1.1.2.2.2.2.2.2.2⟩ : _ ∧ k_ ≠ eD))))) (fun _ hk => ⟨hk.1.1.1.2.1, ⟨hk.1.1.1.2.2.1, ⟨hk.1.1.1.1, ⟨hk.1.1.2, ⟨hk.1.1.1.2.2.2.2.1, ⟨hk.1.1.1.2.2.2.2.2.2.1, hk.1.1.1.2.2.2.2.2.2.2⟩⟩⟩⟩⟩⟩)⟩, ⟨mR Zs jF⟩, ⟨by refine rN ?_; exact Kd.aJ (fN (fN (Kd.aJ Zt.1 (fun k_ hk => (⟨hk, hk.2.2.2.2.2.2.2.2.2⟩ : _ ∧ k_ ≠ eD))))) (fun _ hk => ⟨hk.1.2.1, ⟨hk.1.2.2.1, ⟨hk.1.2.2.2.2.1, ⟨hk.1.1, ⟨hk.1.2.2.2.2.2.2.1, ⟨hk.1.2.2.2.2.2.2.2.2.1, hk.1.2.2.2.2.2.2.2.2.2⟩⟩⟩⟩⟩⟩)⟩, ⟨qF aV qC⟩, ⟨qF fC qD⟩, ⟨qP jF⟩, ⟨(Kd.mF (by refine rV ?_; exact (Kd.dQ (Kd.iZ (p := ⟨eD, 1, none⟩) (Kd.iZ (p := ⟨eD, 0, none⟩) (Kd.dQ iO.out (fun k_ hk => (⟨hk, hk.1.1.1.1.2⟩ : _ ∧ k_ ≠ eD))) (fun _ hk => hk.2) (.slice Ze Ym.length bu)) (fun _ hk => hk.2) (.slice Zf Yn.length bv)) (fun _ h_ => h_.1)))).2.2⟩, ⟨yP⟩⟩
   case rest =>
    clear Dw
    try clear c2
    try clear OX
    try clear XE
    try clear FU
    try clear I7
    try clear TR TW TR TW
    try clear yo
    try clear Z16
    try clear yq
    try clear yr
    try clear Z28
    try clear Z29
    try clear Z7
    try clear DO y9 xC
    obtain ⟨kq, WH, PQ, pG, pH, GL, GM, wK, BQ, GI, RP, rfl, rfl, HA, WW, iG, aH, aD, fY, fZ, uE, uF, aV, fC, jF, kZ, HB⟩ := hcut
    cases kq with
    | zero => exact absurd HA.out (by simp [dE.j1])
    | succ kj10 =>
     have H := HA.out
     clear HA
     simp only [dE.j1] at H
     by_cases Qn : WH = PQ
     rw [if_pos Qn] at H
     have aBO : (WH == PQ) = true := beq_iff_eq.mpr Qn
     have aBP : (WH != PQ) = false := bne_eq_false_iff_eq.mpr Qn
     clear Qn
     obtain ⟨ru, Uw, H⟩ := bd H
     refine tC H ?_ ?_ <;> clear H <;> intro aBQ H <;> subst aBQ
     obtain ⟨aTD, a9Y, H⟩ := bd H
     refine tC H ?_ ?_ <;> clear H <;> intro aBT H <;> subst aBT
     obtain ⟨aTE, a9Z, H⟩ := bd H
     refine tC H ?_ ?_ <;> clear H <;> intro aBW H <;> subst aBW
     obtain ⟨rv, aA1, H⟩ := bd H
     refine tC H ?_ ?_ <;> clear H <;> intro aBX H <;> subst aBX
     exact absurd H (by simp)
     refine iq H ?_ ?_ <;> clear H <;> intro aSC aC0 aC1 H
     have H' := am H
     repeat clear H
     have aR1 := nZ2 z8 vX qD vZ
     have aBB := cz2 fC
     have aBC := nZ1 zA qC
     have aBD := cz2 jF
     obtain ⟨un, a0L, a18⟩ := Kd.cZ fY.1
     subst a18
     obtain ⟨uo, a0M, a19⟩ := Kd.gM fZ.1
     subst a19
     obtain ⟨aGM, aLB, a1A⟩ := Kd.cZ uE.1
     subst a1A
     obtain ⟨aGN, aLC, a1B⟩ := Kd.gM uF.1
     subst a1B
     rotate_left
     obtain ⟨aTF, Ux, H⟩ := bd H
     refine tC H ?_ ?_ <;> clear H <;> intro aC4 H <;> subst aC4
     have H' := am H
     repeat clear H
     have aBF := nZ2 z8 vX qD vZ
     have aRA := cz2 fC
     have aRB := nZ1 zA qC
     have aRC := cz2 jF
     obtain ⟨uq, a0N, a1C⟩ := Kd.cZ fY.1
     subst a1C
     obtain ⟨ur, a0O, a1D⟩ := Kd.gM fZ.1
     subst a1D
     obtain ⟨aGO, aLD, a1E⟩ := Kd.cZ uE.1
     subst a1E
     obtain ⟨aGP, aLE, a1F⟩ := Kd.gM uF.1
     subst a1F
     have ak := trivial
     rotate_left
     exact absurd H (by simp)
     exact absurd H (by simp)
     exact absurd H (by simp)
     exact absurd H (by simp)
     rw [if_neg Qn] at H
     exact absurd H (by simp)
     all_goals
      go_wp2_with (first | (go_at_call 13; revert Uw; intro Uw; refine cM (eX.calls kj10 _ _ pG _ _ pH _ _ GL _ _ GM true _ (pC (Kd.bH fY.1).2.2) ((Kd.bH fY.1).2.1) (pC (Kd.d9 fZ.1).2.2) ((Kd.d9 fZ.1).2.1) (pC (Kd.bH uE.1).2.2) ((Kd.bH uE.1).2.1) (pC (Kd.d9 uF.1).2.2) ((Kd.d9 uF.1).2.1) Uw.out) ?_; rintro aPU hb; replace iG := NE VY hb; replace aH := RB fU hb; replace aD := NE lE hb; replace fY := RB KQ hb; replace fZ := NE NQ hb; replace uE := RB Ck hb; replace uF := NE Cl hb; replace aV := bB iD hb; replace fC := bB QM hb; replace jF := bB Th hb; replace kZ := am (Kd.aU Mm hb); replace HB := bS Ge hb; clear hb; have aJN := cz2 fC; clear Uw) | (go_at_call 14; refine cM (aM.calls kj10 _ _ pG _ _ pH true _ (pC (Kd.bH fY.1).2.2) ((Kd.bH fY.1).2.1) (pC (Kd.d9 fZ.1).2.2) ((Kd.d9 fZ.1).2.1) a9Y.out) ?_; rintro aPV hb; replace iG := NE VY hb; replace aH := RB fU hb; replace aD := NE lE hb; replace fY := RB KQ hb; replace fZ := NE NQ hb; replace uE := RB Ck hb; replace uF := NE Cl hb; replace aV := bB iD hb; replace fC := bB QM hb; replace jF := bB Th hb; replace kZ := am (Kd.aU Mm hb); replace HB := bS Ge hb; clear hb; have aJO := cz2 fC) | (go_at_call 15; refine cM (jH.calls kj10 _ _ pG _ _ pH true _ (pC (Kd.bH fY.1).2.2) ((Kd.bH fY.1).2.1) (pC (Kd.d9 fZ.1).2.2) ((Kd.d9 fZ.1).2.1) a9Z.out) ?_; rintro aPW hb; replace iG := NE VY hb; replace aH := RB fU hb; replace aD := NE lE hb; replace fY := RB KQ hb; replace fZ := NE NQ hb; replace uE := RB Ck hb; replace uF := NE Cl hb; replace aV := bB iD hb; replace fC := bB QM hb; replace jF := bB Th hb; replace kZ := am (Kd.aU Mm hb); replace HB := bS Ge hb; clear hb; have aJP := cz2 fC) | (go_at_call 16; refine cM (p9.calls kj10 _ _ pG _ _ pH false _ (pC (Kd.bH fY.1).2.2) ((Kd.bH fY.1).2.1) (pC (Kd.d9 fZ.1).2.2) ((Kd.d9 fZ.1).2.1) aA1.out) ?_; rintro aPX hb; replace iG := NE VY hb; replace aH := RB fU hb; replace aD := NE lE hb; replace fY := RB KQ hb; replace fZ := NE NQ hb; replace uE := RB Ck hb; replace uF := NE Cl hb; replace aV := bB iD hb; replace fC := bB QM hb; replace jF := bB Th hb; replace kZ := am (Kd.aU Mm hb); replace HB := bS Ge hb; clear hb; have aJQ := cz2 fC; have aJR := cz2 aV) | (go_at_call 13; revert ak; intro ak; revert Ux; intro Ux; refine cM (eX.calls kj10 _ _ pG _ _ pH _ _ bD _ _ bG true _ (pC (Kd.bH fY.1).2.2) ((Kd.bH fY.1).2.1) (pC (Kd.d9 fZ.1).2.2) ((Kd.d9 fZ.1).2.1) (pC (Kd.bH aH.1).2.2) ((Kd.bH aH.1).2.1) (pC (Kd.d9 aD.1).2.2) ((Kd.d9 aD.1).2.1) Ux.out) ?_; rintro aPY hb; replace iG := NE VY hb; replace aH := RB fU hb; replace aD := NE lE hb; replace fY := RB KQ hb; replace fZ := NE NQ hb; replace uE := RB Ck hb; replace uF := NE Cl hb; replace aV := bB iD hb; replace fC := bB QM hb; replace jF := bB Th hb; replace kZ := am (Kd.aU Mm hb); replace HB := bS Ge hb; clear hb; have aJS := cz2 fC; have aJT := cz2 aV; clear Ux))
     ·go_roundg kj10
      case measure => have := HK1.out; have := WW.out; omega
      case rel => exact ⟨(wrap64 (bR + 1)), (pG), (pH), (.slice un pG.length a0L), (.slice uo pH.length a0M), dU, H', ⟨by have := HK1.out; have := WW.out; omega⟩, ⟨by refine rN ?_; exact Kd.aJ (fN (fN (Kd.aJ iG.1 (fun k_ hk => (⟨hk, hk.2.2.2.2.2.2.1⟩ : _ ∧ k_ ≠ bC))))) (fun _ hk => ⟨hk.1.2.2.1, ⟨hk.1.2.2.2.1, hk.1.2.2.2.2.2.2.1⟩⟩)⟩, ⟨mR fY aV⟩, ⟨by refine rN ?_; exact Kd.aJ (fN (fN (Kd.aJ fZ.1 (fun k_ hk => (⟨hk, hk.2.2.2.2.1⟩ : _ ∧ k_ ≠ bC))))) (fun _ hk => ⟨hk.1.1, ⟨hk.1.2.2.1, hk.1.2.2.2.2.1⟩⟩)⟩, ⟨qP aV⟩, ⟨Ge⟩⟩
     ·go_roundg kj10
      case measure => have := HK1.out; have := WW.out; omega
      case rel => exact ⟨(wrap64 (bR + 1)), (pG), (pH), (.slice uq pG.length a0N), (.slice ur pH.length a0O), dU, H', ⟨by have := HK1.out; have := WW.out; omega⟩, ⟨by refine rN ?_; exact Kd.aJ (fN (fN (Kd.aJ iG.1 (fun k_ hk => (⟨hk, hk.2.2.2.2.2.2.1⟩ : _ ∧ k_ ≠ bC))))) (fun _ hk => ⟨hk.1.2.2.1, ⟨hk.1.2.2.2.1, hk.1.2.2.2.2.2.2.1⟩⟩)⟩, ⟨mR fY aV⟩, ⟨by refine rN ?_; exact Kd.aJ (fN (fN (Kd.aJ fZ.1 (fun k_ hk => (⟨hk, hk.2.2.2.2.1⟩ : _ ∧ k_ ≠ bC))))) (fun _ hk => ⟨hk.1.1, ⟨hk.1.2.2.1, hk.1.2.2.2.2.1⟩⟩)⟩, ⟨qP aV⟩, ⟨Ge⟩⟩
  ·have H' := am H
   repeat clear H
   obtain ⟨aGQ, aLF, a1G⟩ := Kd.gM iG.1
   subst a1G
   have yp := cz2 aV
   obtain ⟨ut, a0P, a1H⟩ := Kd.gM aD.1
   subst a1H
   go_wp2
   go_loopg [11] k1 (fun kq v11 w' => ∃ (UA : Int) (dH : List ByteArray) (eZ : List (S52)) (uY : Value) (nN : Value), v11 = .int .i64 UA ∧ aC (dE.l1 kq UA dH eZ = some r) ∧ aC (kq ≤ k1) ∧ aC (Kd.R Kd.string 9 w' w.heap.size (fun _ => True) uY dH) ∧ aC (Kd.N k52 52 w' w.heap.size (fun k_ => some k_ ≠ (uY : Value).ownBlock ∧ k_ ≠ bC) nN eZ) ∧ aC (w'.heap[bC]? = some (.cells #[uY, nN] 26 (0, 0))) ∧ aC (Below w.heap.size w w'))
   case atStart => exact ⟨((bG.length : Int)), (bD), (bG), (uY), (.slice ut bG.length a0P), dU, H', ⟨Nat.le_refl _⟩, ⟨rR aH.1⟩, ⟨by refine rN ?_; exact Kd.aJ aD.1 (fun _ hk => ⟨hk.2.1, hk.2.2⟩)⟩, ⟨rB aV.1⟩, ⟨NW⟩⟩
   case round =>
    clear H'
    try clear c2
    try clear OX
    try clear XE
    try clear FU
    try clear yp
    try clear Z7
    obtain ⟨UA, dH, eZ, uY, nN, rfl, HA, HK2, aH, aD, aV, HB⟩ := hrel
    cases gk with
    | zero => exact absurd HA.out (by simp [dE.l1])
    | succ k2 =>
     have H := HA.out
     clear HA
     simp only [dE.l1] at H
     by_cases Lc : UA > 0
     rw [if_pos Lc] at H
     have lu : decide (0 < UA) = true := decide_eq_true Lc
     clear Lc
     obtain ⟨jX, aA7, H⟩ := bd H
     by_cases Qq : (jX.length : Int) = 0
     rw [if_pos Qq] at H
     exact absurd H (by simp)
     rw [if_neg Qq] at H
     have aC5 : ((jX.length : Int) == 0) = false := beq_eq_false_iff_ne.mpr Qq
     have aC6 : ((jX.length : Int) != 0) = true := bne_iff_ne.mpr Qq
     have aC7 : ¬ (jX = []) := fun h_ => Qq (by rw [h_]; rfl)
     by_cases Wn : 0 < (jX.length : Int)
     rw [if_pos Wn] at H
     have aC8 : decide (0 < (jX.length : Int)) = true := decide_eq_true Wn
     have aC9 : decide (0 < jX.length) = true := decide_eq_true (by omega)
     clear Wn
     obtain ⟨GE, ui, H⟩ := bd H
     obtain ⟨⟨qW, xI, ZD⟩, fp, H⟩ := bd H
     dsimp only at H
     obtain ⟨⟨ZE, Cw, Cx⟩, uj, H⟩ := bd H
     dsimp only at H
     by_cases Qs : ZD = 0
     rw [if_pos Qs] at H
     have aCA : (ZD == 0) = true := beq_iff_eq.mpr Qs
     have aCB : (ZD != 0) = false := bne_eq_false_iff_eq.mpr Qs
     clear Qs
     by_cases Qt : Cx = 0
     rw [if_pos Qt] at H
     have aCC : (Cx == 0) = true := beq_iff_eq.mpr Qt
     have aCD : (Cx != 0) = false := bne_eq_false_iff_eq.mpr Qt
     clear Qt
     obtain ⟨aTG, aA9, H⟩ := bd H
     refine tC H ?_ ?_ <;> clear H <;> intro aCE H <;> subst aCE
     have H' := am H
     repeat clear H
     have aRG := cz2 aV
     obtain ⟨jY, k3, a1I⟩ := Kd.cZ aH.1
     subst a1I
     obtain ⟨qH, qM, a1J⟩ := Kd.gM aD.1
     subst a1J
     have al := trivial
     rotate_left
     exact absurd H (by simp)
     rw [if_neg Qt] at H
     exact absurd H (by simp)
     rw [if_neg Qs] at H
     exact absurd H (by simp)
     rw [if_neg Wn] at H
     exact absurd H (by simp)
     rw [if_neg Lc] at H
     have lu : decide (0 < UA) = false := decide_eq_false Lc
     clear Lc
     obtain rfl := Option.some.inj H
     repeat clear H
     have aRN := cz2 aV
     obtain ⟨aGR, aLG, a1K⟩ := Kd.gM aD.1
     subst a1K
     rotate_left
     all_goals
      try go_wp2_with (first | ((with_reducible refine gC 17 ?_); revert al; intro al; refine cE (some 155) Tryz.func17 (fT.calls k2 _ _ dH _ _ eZ jX _ (pC (Kd.bH aH.1).2.2) ((Kd.bH aH.1).2.1) (pC (Kd.d9 aD.1).2.2) ((Kd.d9 aD.1).2.1) aA7.out) ?_; rintro e a4O ⟨aTR, rfl, eH, hb⟩; refine ⟨_, rfl, ?_⟩; replace aD := am (Kd.rW lE (Kd.bT eH) hb); have lM := am (Kd.dO (Kd.fF eH (Kd.R_lt fU)) (aG NW)); replace aH := am (Kd.dV fU (Kd.bT eH) hb); replace aV := bB iD hb; replace HB := bS NW hb; clear hb eH; obtain ⟨aAS, jV, oy⟩ := Kd.cZ lM.1; subst oy))
     ·replace aH := RD aH
      replace aD := ND aD
      replace lM := RD lM
      replace aV := BD aV
      replace HB := am (aY HB.1)
      have ql : 0 ≤ (0 : Int) := (by omega)
      have qz : 0 < (jX.length : Int) := oT
      obtain ⟨kI, aCZ, RI⟩ := Kd.xP (Kd.bH lM.1).2.2 0 ql qz
      cases aCZ
      have qi179 : (0 < jX.length) = True := eq_true (by omega)
      (try rw [show ((0 : Int)).toNat = 0 from rfl] at RI)
      (try rw [Addr.add_zero'] at RI)
      replace ql := eq_true ql
      replace qz := eq_true qz
      have qm : 0 ≤ (0 : Int) := (by omega)
      have ra : 0 < (jX.length : Int) := oT
      obtain ⟨zq, aD0, RJ⟩ := Kd.xP (Kd.bH lM.1).2.2 0 qm ra
      obtain rfl : kI = zq := (by injection aD0)
      have qi180 : (0 < jX.length) = True := eq_true (by omega)
      (try rw [show ((0 : Int)).toNat = 0 from rfl] at RJ)
      (try rw [Addr.add_zero'] at RJ)
      replace qm := eq_true qm
      replace ra := eq_true ra
      refine sT (S := fun w' => w'.cell? ⟨bC, 0, none⟩ = some (.slice jY dH.length k3) ∧ w'.cell? ⟨bC, 1, none⟩ = some (.slice qH eZ.length qM) ∧ w'.cell? kI = some (.string (rdOf ByteArray.empty jX 0)) ∧ w'.cell? kI = some (.string (rdOf ByteArray.empty jX 0))) [] 16 ⟨⟨(bP aV.1 0).trans rfl, (bP aV.1 1).trans rfl, RI, RJ⟩⟩ (fun hHeld => ?_)
      refine fP dE.a3U dE.ky (fun HT_ HW_ => ?_)
      generalize a4O.drew = aUI at aH aD lM aV HB RI RJ hHeld ⊢
      refine pU4 1 2 5 6 ?_
      refine tK4 0 (some 160) ?_
      refine tK4 3 (some 163) ?_
      refine tK4 4 (some 164) ?_
      refine tK4 7 (some 167) ?_
      refine Jr (σ := Value × Value × Value × Nat) 2 (bz 16 16383) (fun s_ => [(168, s_.1), (169, .tuple #[.agg #[s_.2.1, s_.2.2.1], .int .i64 ZD]), (13, .pointer (some ⟨s_.2.2.2, 0, none⟩)), (159, .tuple #[.agg #[s_.2.1, s_.2.2.1], .int .i64 ZD]), (170, .agg #[s_.2.1, s_.2.2.1]), (171, .int .i64 ZD)]) (fun s_ w' => (w'.cell? ⟨bC, 0, none⟩ = some (.slice jY dH.length k3) ∧ w'.cell? ⟨bC, 1, none⟩ = some (.slice qH eZ.length qM) ∧ w'.cell? kI = some (.string (rdOf ByteArray.empty jX 0)) ∧ w'.cell? kI = some (.string (rdOf ByteArray.empty jX 0))) ∧ (Kd.R Kd.string 9 w' w.heap.size (fun k_ => some k_ ≠ (s_.1 : Value).ownBlock ∧ some k_ ≠ (s_.2.1 : Value).ownBlock ∧ some k_ ≠ (.slice jY dH.length k3 : Value).ownBlock) (.slice (some kI) jX.length jV) jX) ∧ (Kd.R Kd.string 9 w' w.heap.size (fun k_ => some k_ ≠ (.slice (some kI) jX.length jV : Value).ownBlock ∧ some k_ ≠ (s_.2.1 : Value).ownBlock ∧ some k_ ≠ (.slice jY dH.length k3 : Value).ownBlock) s_.1 GE) ∧ (Kd.R Kd.string 9 w' w.heap.size (fun k_ => some k_ ≠ (.slice (some kI) jX.length jV : Value).ownBlock ∧ some k_ ≠ (s_.1 : Value).ownBlock ∧ some k_ ≠ (.slice jY dH.length k3 : Value).ownBlock) s_.2.1 qW) ∧ (Kd.N k52 52 w' w.heap.size (fun k_ => some k_ ≠ (.slice (some kI) jX.length jV : Value).ownBlock ∧ some k_ ≠ (s_.1 : Value).ownBlock ∧ some k_ ≠ (s_.2.1 : Value).ownBlock ∧ some k_ ≠ (.slice jY dH.length k3 : Value).ownBlock ∧ some k_ ≠ (.slice qH eZ.length qM : Value).ownBlock ∧ k_ ≠ bC ∧ k_ ≠ s_.2.2.2) s_.2.2.1 xI) ∧ (Kd.R Kd.string 9 w' w.heap.size (fun k_ => some k_ ≠ (.slice (some kI) jX.length jV : Value).ownBlock ∧ some k_ ≠ (s_.1 : Value).ownBlock ∧ some k_ ≠ (s_.2.1 : Value).ownBlock) (.slice jY dH.length k3) dH) ∧ (Kd.N k52 52 w' w.heap.size (fun k_ => some k_ ≠ (.slice (some kI) jX.length jV : Value).ownBlock ∧ some k_ ≠ (s_.1 : Value).ownBlock ∧ some k_ ≠ (s_.2.1 : Value).ownBlock ∧ some k_ ≠ (s_.2.2.1 : Value).ownBlock ∧ some k_ ≠ (.slice jY dH.length k3 : Value).ownBlock ∧ k_ ≠ bC ∧ k_ ≠ s_.2.2.2) (.slice qH eZ.length qM) eZ) ∧ (w'.heap[bC]? = some (.cells #[.slice jY dH.length k3, .slice qH eZ.length qM] 26 (0, 0))) ∧ (w'.heap[s_.2.2.2]? = some (.cells #[.slice none 0 0, .slice none 0 0] 26 (0, 0))) ∧ (w.heap.size ≤ s_.2.2.2) ∧ (w.heap.size ≤ s_.2.2.2) ∧ (bC ≠ s_.2.2.2) ∧ (s_.2.2.2 ≠ bC) ∧ (Below w.heap.size w w')) ?_ ?_
      rotate_left
      ·intro hCont
       refine two_ (i := 8) (j := 13) (Ni := some 168) (Nj := some 13) (bz 16 511) (bz 16 8447) rfl rfl rfl rfl (M4 HT_.out (by kernel_rfl)) (by decide) (by decide) (fun K hK => ?_) (fun K hK => ?_)
       ·skip
        refine GZ Tryz.func18 (by kernel_rfl) rfl #[.agg #[.slice jY dH.length k3, .slice qH eZ.length qM], .string (rdOf ByteArray.empty jX 0)] (by rfl) rfl rfl AS ?_
        with_reducible refine (dY.calls k2 _ _ dH _ _ eZ (rdOf ByteArray.empty jX 0) GE _ ?side1 ?side2 ?side3 ?side4 ui.out).mono ?_
        (case side1 => exact pC (Kd.bH aH.1).2.2)
        (case side2 => exact (Kd.bH aH.1).2.1)
        (case side3 => exact pC (Kd.d9 aD.1).2.2)
        (case side4 => exact (Kd.d9 aD.1).2.1)
        rintro e aFY ⟨v182, rfl, eH, hb⟩
        have HS2_ := (hb.cell (World.block_lt_of_cell? _ _ (hHeld.2.2.1))).trans (hHeld.2.2.1)
        have HS3_ := (hb.cell (World.block_lt_of_cell? _ _ (hHeld.2.2.2))).trans (hHeld.2.2.2)
        refine ⟨_, rfl, ?_⟩
        replace aD := am (Kd.rW lE (Kd.bT eH) hb)
        have oK := am (Kd.dO (Kd.fF (Kd.fF eH (Kd.R_lt fU)) (Kd.R_lt uX)) (aG NW))
        replace aH := am (Kd.dV fU (Kd.bT eH) hb)
        replace lM := am (Kd.dV uX (Kd.bT eH) hb)
        replace aV := bB iD hb
        replace HB := bS NW hb
        clear hb eH
        obtain ⟨Ns, Qw, dd⟩ := Kd.cZ oK.1
        (first | subst dd | (obtain ⟨f4_, f5_⟩ := sj dd; subst f4_; subst f5_))
        refine hK.out _ _ ⟨(bP aV.1 0).trans rfl, (bP aV.1 1).trans rfl, HS2_, HS3_⟩ (fun hHeld => ?_)
        clear hK K
        refine nM ?_
        refine two_ (i := 9) (j := 13) (Ni := some 169) (Nj := some 13) (bz 16 1023) (bz 16 8703) rfl rfl rfl rfl (M4 HT_.out (by kernel_rfl)) (by decide) (by decide) (fun K hK => ?_) (fun K hK => ?_)
        ·skip
         refine GZ Tryz.func7 (by kernel_rfl) rfl #[.agg #[.slice jY dH.length k3, .slice qH eZ.length qM], .string (rdOf ByteArray.empty jX 0), .slice Ns GE.length Qw] (by rfl) rfl rfl AS ?_
         with_reducible refine (eG.calls k2 _ _ dH _ _ eZ (rdOf ByteArray.empty jX 0) _ _ GE qW xI ZD _ ?side1 ?side2 ?side3 ?side4 ?side5 ?side6 fp.out).mono ?_
         (case side1 => exact pC (Kd.bH aH.1).2.2)
         (case side2 => exact (Kd.bH aH.1).2.1)
         (case side3 => exact pC (Kd.d9 aD.1).2.2)
         (case side4 => exact (Kd.d9 aD.1).2.1)
         (case side5 => exact pC (Kd.bH oK.1).2.2)
         (case side6 => exact (Kd.bH oK.1).2.1)
         rintro e aUJ ⟨M5, Db, rfl, eH, lW, hb⟩
         have HS2_ := (hb.cell (World.block_lt_of_cell? _ _ (hHeld.2.2.1))).trans (hHeld.2.2.1)
         have HS3_ := (hb.cell (World.block_lt_of_cell? _ _ (hHeld.2.2.2))).trans (hHeld.2.2.2)
         refine ⟨_, rfl, ?_⟩
         have rQ := am (Kd.dO (Kd.fF (Kd.fF (Kd.fF eH (Kd.R_lt fU)) (Kd.R_lt uX)) (Kd.R_lt yG)) (aG NW))
         have oC := am (Kd.jK (Kd.aJ (ok' := fun k_ => some k_ ≠ (M5 : Value).ownBlock ∧ some k_ ≠ (.slice jY dH.length k3 : Value).ownBlock ∧ some k_ ≠ (.slice qH eZ.length qM : Value).ownBlock ∧ some k_ ≠ (.slice (some kI) jX.length jV : Value).ownBlock ∧ some k_ ≠ (.slice Ns GE.length Qw : Value).ownBlock ∧ k_ ≠ bC) (Kd.S_N (Kd.lG lW)) (fun k_ hk_ => ⟨hk_.1, (Kd.fresh' (Kd.R_lt fU) k_ hk_.2.1), (Kd.fresh' (Kd.N_lt lE) k_ hk_.2.1), (Kd.fresh' (Kd.R_lt uX) k_ hk_.2.1), (Kd.fresh' (Kd.R_lt yG) k_ hk_.2.1), (fB iD k_ hk_.2.1)⟩)) (aG NW))
         replace aH := am (Kd.dV fU (Kd.bT eH) hb)
         replace aD := am (Kd.aJ (Kd.eY (Kd.eY (Kd.mZ lE hb) (Kd.bT eH)) kN) (fun _ h_ => h_.1))
         replace lM := am (Kd.dV uX (Kd.bT eH) hb)
         replace oK := am (Kd.dV yG (Kd.bT eH) hb)
         replace aV := bB iD hb
         replace HB := bS NW hb
         clear hb eH lW
         refine hK.out _ _ ⟨(bP aV.1 0).trans rfl, (bP aV.1 1).trans rfl, HS2_, HS3_⟩ (fun hHeld => ?_)
         clear hK K
         refine nM ?_
         refine pU3 10 11 12 ?_
         refine oN 13 (some 13) fun K hK => ?_
         refine I4 ?hg (N := 13) ?hd (cs := #[.slice none 0 0, .slice none 0 0]) (t := 26) ?hr ?_; (case hd => rfl); (case hg => rfl); (case hr => first | (go_simp; done) | (go_simp; rfl))
         intro jO hg a4G hbox hb
         have HS2_ := (hb.cell (World.block_lt_of_cell? _ _ (hHeld.2.2.1))).trans (hHeld.2.2.1)
         have HS3_ := (hb.cell (World.block_lt_of_cell? _ _ (hHeld.2.2.2))).trans (hHeld.2.2.2)
         replace aH := RB fU hb
         replace aD := am (Kd.iI (Kd.jU lE jO (Nat.le_of_eq hg.symm)) hb)
         replace lM := RB uX hb
         replace oK := RB yG hb
         replace rQ := RB NU hb
         replace oC := am (Kd.iI (Kd.jU (rN oC.1) jO (Nat.le_of_eq hg.symm)) hb)
         have mK := am hbox
         have MH := am (Yd : w.heap.size ≤ jO)
         have KD := MH
         replace HB := bS NW hb
         have oQ := nL iD hg
         have wA := nG iD hg
         replace aV := bB iD hb
         clear hb hbox hg
         refine hK.out _ _ ⟨(bP aV.1 0).trans rfl, (bP aV.1 1).trans rfl, HS2_, HS3_⟩ (fun hHeld => ?_)
         clear hK K
         refine nM ?_
         exact AA IL (hCont (.slice Ns GE.length Qw, M5, Db, jO) _ ⟨hHeld, (by refine rR ?_; exact Kd.aT lM.1 (fun _ hk => ⟨hk.1.2, ⟨hk.2, hk.1.1.2⟩⟩)), (by refine rR ?_; exact Kd.aT oK.1 (fun _ hk => ⟨hk.1.2, ⟨hk.2, hk.1.1.2⟩⟩)), (by refine rR ?_; exact Kd.aT rQ.1 (fun _ hk => ⟨hk.1.2, ⟨hk.2, hk.1.1.2⟩⟩)), (by refine rN ?_; exact Kd.aJ oC.1 (fun _ hk => ⟨hk.1.2.2.2.1, ⟨hk.1.2.2.2.2.1, ⟨hk.1.1, ⟨hk.1.2.1, ⟨hk.1.2.2.1, ⟨hk.1.2.2.2.2.2, hk.2⟩⟩⟩⟩⟩⟩)), (by refine rR ?_; exact Kd.aT aH.1 (fun _ hk => ⟨hk.1.1.2, ⟨hk.1.2, hk.2⟩⟩)), (by refine rN ?_; exact Kd.aJ aD.1 (fun _ hk => ⟨hk.1.1.1.1.2, ⟨hk.1.1.1.2, ⟨hk.1.1.2, ⟨hk.1.2, ⟨hk.1.1.1.1.1.1, ⟨hk.1.1.1.1.1.2, hk.2⟩⟩⟩⟩⟩⟩)), iD, F8, MH.out, KD.1, oQ.1, wA.1, K2⟩)
        ·skip
         refine I4 ?hg (N := 13) ?hd (cs := #[.slice none 0 0, .slice none 0 0]) (t := 26) ?hr ?_; (case hd => rfl); (case hg => rfl); (case hr => first | (go_simp; done) | (go_simp; rfl))
         intro jO hg aFZ hbox hb
         have HS2_ := (hb.cell (World.block_lt_of_cell? _ _ (hHeld.2.2.1))).trans (hHeld.2.2.1)
         have HS3_ := (hb.cell (World.block_lt_of_cell? _ _ (hHeld.2.2.2))).trans (hHeld.2.2.2)
         replace aH := RB fU hb
         replace aD := am (Kd.iI (Kd.jU lE jO (Nat.le_of_eq hg.symm)) hb)
         replace lM := RB uX hb
         replace oK := RB yG hb
         have mK := am hbox
         have MH := am (Yd : w.heap.size ≤ jO)
         have KD := MH
         replace HB := bS NW hb
         have oQ := nL iD hg
         have wA := nG iD hg
         replace aV := bB iD hb
         clear hb hbox hg
         obtain ⟨RT, SY, Aw⟩ := Kd.cZ oK.1
         (first | subst Aw | (obtain ⟨f4_, f5_⟩ := sj Aw; subst f4_; subst f5_))
         refine hK.out _ _ ⟨(bP aV.1 0).trans rfl, (bP aV.1 1).trans rfl, HS2_, HS3_⟩ (fun hHeld => ?_)
         clear hK K
         refine nM ?_
         refine oN 9 (some 169) fun K hK => ?_
         refine GZ Tryz.func7 (by kernel_rfl) rfl #[.agg #[.slice jY dH.length k3, .slice qH eZ.length qM], .string (rdOf ByteArray.empty jX 0), .slice RT GE.length SY] (by rfl) rfl rfl AS ?_
         with_reducible refine (eG.calls k2 _ _ dH _ _ eZ (rdOf ByteArray.empty jX 0) _ _ GE qW xI ZD _ ?side1 ?side2 ?side3 ?side4 ?side5 ?side6 fp.out).mono ?_
         (case side1 => exact pC (Kd.bH aH.1).2.2)
         (case side2 => exact (Kd.bH aH.1).2.1)
         (case side3 => exact pC (Kd.d9 aD.1).2.2)
         (case side4 => exact (Kd.d9 aD.1).2.1)
         (case side5 => exact pC (Kd.bH oK.1).2.2)
         (case side6 => exact (Kd.bH oK.1).2.1)
         rintro e a4G ⟨M5, Db, rfl, eH, lW, hb⟩
         have HS2_ := (hb.cell (World.block_lt_of_cell? _ _ (hHeld.2.2.1))).trans (hHeld.2.2.1)
         have HS3_ := (hb.cell (World.block_lt_of_cell? _ _ (hHeld.2.2.2))).trans (hHeld.2.2.2)
         refine ⟨_, rfl, ?_⟩
         have rQ := am (Kd.dO (Kd.fF (Kd.fF (Kd.fF eH (Kd.R_lt fU)) (Kd.R_lt uX)) (Kd.R_lt yG)) (aG K2))
         have oC := am (Kd.jK (Kd.aJ (ok' := fun k_ => some k_ ≠ (M5 : Value).ownBlock ∧ some k_ ≠ (.slice jY dH.length k3 : Value).ownBlock ∧ some k_ ≠ (.slice qH eZ.length qM : Value).ownBlock ∧ some k_ ≠ (.slice (some kI) jX.length jV : Value).ownBlock ∧ some k_ ≠ (.slice RT GE.length SY : Value).ownBlock ∧ k_ ≠ bC ∧ k_ ≠ jO) (Kd.S_N (Kd.lG lW)) (fun k_ hk_ => ⟨hk_.1, (Kd.fresh' (Kd.R_lt fU) k_ hk_.2.1), (Kd.fresh' (Kd.N_lt lE) k_ hk_.2.1), (Kd.fresh' (Kd.R_lt uX) k_ hk_.2.1), (Kd.fresh' (Kd.R_lt yG) k_ hk_.2.1), (fB iD k_ hk_.2.1), (fB F8 k_ hk_.2.1)⟩)) (aG K2))
         replace aH := am (Kd.dV fU (Kd.bT eH) hb)
         replace aD := am (Kd.aJ (Kd.eY (Kd.eY (Kd.mZ lE hb) (Kd.bT eH)) kN) (fun _ h_ => h_.1))
         replace lM := am (Kd.dV uX (Kd.bT eH) hb)
         replace oK := am (Kd.dV yG (Kd.bT eH) hb)
         replace aV := bB iD hb
         replace mK := bB F8 hb
         replace HB := bS K2 hb
         clear hb eH lW
         refine hK.out _ _ ⟨(bP aV.1 0).trans rfl, (bP aV.1 1).trans rfl, HS2_, HS3_⟩ (fun hHeld => ?_)
         clear hK K
         refine nM ?_
         refine pU3 10 11 12 ?_
         exact AA IL (hCont (.slice RT GE.length SY, M5, Db, jO) _ ⟨hHeld, (by refine rR ?_; exact Kd.aT lM.1 (fun _ hk => ⟨hk.1.2, ⟨hk.2, hk.1.1.2⟩⟩)), (by refine rR ?_; exact Kd.aT oK.1 (fun _ hk => ⟨hk.1.2, ⟨hk.2, hk.1.1.2⟩⟩)), (by refine rR ?_; exact Kd.aT rQ.1 (fun _ hk => ⟨hk.1.2, ⟨hk.2, hk.1.1.2⟩⟩)), (by refine rN ?_; exact Kd.aJ oC.1 (fun _ hk => ⟨hk.2.2.2.1, ⟨hk.2.2.2.2.1, ⟨hk.1, ⟨hk.2.1, ⟨hk.2.2.1, ⟨hk.2.2.2.2.2.1, hk.2.2.2.2.2.2⟩⟩⟩⟩⟩⟩)), (by refine rR ?_; exact Kd.aT aH.1 (fun _ hk => ⟨hk.1.1.2, ⟨hk.1.2, hk.2⟩⟩)), (by refine rN ?_; exact Kd.aJ aD.1 (fun _ hk => ⟨hk.1.1.1.1.2, ⟨hk.1.1.1.2, ⟨hk.1.2, ⟨hk.2, ⟨hk.1.1.1.1.1.1, ⟨hk.1.1.1.1.1.2, hk.1.1.2⟩⟩⟩⟩⟩⟩)), iD, F8, MH.out, KD.1, oQ.1, wA.1, K2⟩)
       ·skip
        refine I4 ?hg (N := 13) ?hd (cs := #[.slice none 0 0, .slice none 0 0]) (t := 26) ?hr ?_; (case hd => rfl); (case hg => rfl); (case hr => first | (go_simp; done) | (go_simp; rfl))
        intro jO hg aFY hbox hb
        have HS2_ := (hb.cell (World.block_lt_of_cell? _ _ (hHeld.2.2.1))).trans (hHeld.2.2.1)
        have HS3_ := (hb.cell (World.block_lt_of_cell? _ _ (hHeld.2.2.2))).trans (hHeld.2.2.2)
        replace aH := RB fU hb
        replace aD := am (Kd.iI (Kd.jU lE jO (Nat.le_of_eq hg.symm)) hb)
        replace lM := RB uX hb
        have mK := am hbox
        have MH := am (Yd : w.heap.size ≤ jO)
        have KD := MH
        replace HB := bS NW hb
        have oQ := nL iD hg
        have wA := nG iD hg
        replace aV := bB iD hb
        clear hb hbox hg
        refine hK.out _ _ ⟨(bP aV.1 0).trans rfl, (bP aV.1 1).trans rfl, HS2_, HS3_⟩ (fun hHeld => ?_)
        clear hK K
        refine nM ?_
        refine oN 8 (some 168) fun K hK => ?_
        refine GZ Tryz.func18 (by kernel_rfl) rfl #[.agg #[.slice jY dH.length k3, .slice qH eZ.length qM], .string (rdOf ByteArray.empty jX 0)] (by rfl) rfl rfl AS ?_
        with_reducible refine (dY.calls k2 _ _ dH _ _ eZ (rdOf ByteArray.empty jX 0) GE _ ?side1 ?side2 ?side3 ?side4 ui.out).mono ?_
        (case side1 => exact pC (Kd.bH aH.1).2.2)
        (case side2 => exact (Kd.bH aH.1).2.1)
        (case side3 => exact pC (Kd.d9 aD.1).2.2)
        (case side4 => exact (Kd.d9 aD.1).2.1)
        rintro e aFZ ⟨v182, rfl, eH, hb⟩
        have HS2_ := (hb.cell (World.block_lt_of_cell? _ _ (hHeld.2.2.1))).trans (hHeld.2.2.1)
        have HS3_ := (hb.cell (World.block_lt_of_cell? _ _ (hHeld.2.2.2))).trans (hHeld.2.2.2)
        refine ⟨_, rfl, ?_⟩
        replace aD := am (Kd.rW lE (Kd.bT eH) hb)
        have oK := am (Kd.dO (Kd.fF (Kd.fF eH (Kd.R_lt fU)) (Kd.R_lt uX)) (aG K2))
        replace aH := am (Kd.dV fU (Kd.bT eH) hb)
        replace lM := am (Kd.dV uX (Kd.bT eH) hb)
        replace aV := bB iD hb
        replace mK := bB F8 hb
        replace HB := bS K2 hb
        clear hb eH
        obtain ⟨RT, SY, Aw⟩ := Kd.cZ oK.1
        (first | subst Aw | (obtain ⟨f4_, f5_⟩ := sj Aw; subst f4_; subst f5_))
        refine hK.out _ _ ⟨(bP aV.1 0).trans rfl, (bP aV.1 1).trans rfl, HS2_, HS3_⟩ (fun hHeld => ?_)
        clear hK K
        refine nM ?_
        refine oN 9 (some 169) fun K hK => ?_
        refine GZ Tryz.func7 (by kernel_rfl) rfl #[.agg #[.slice jY dH.length k3, .slice qH eZ.length qM], .string (rdOf ByteArray.empty jX 0), .slice RT GE.length SY] (by rfl) rfl rfl AS ?_
        with_reducible refine (eG.calls k2 _ _ dH _ _ eZ (rdOf ByteArray.empty jX 0) _ _ GE qW xI ZD _ ?side1 ?side2 ?side3 ?side4 ?side5 ?side6 fp.out).mono ?_
        (case side1 => exact pC (Kd.bH aH.1).2.2)
        (case side2 => exact (Kd.bH aH.1).2.1)
        (case side3 => exact pC (Kd.d9 aD.1).2.2)
        (case side4 => exact (Kd.d9 aD.1).2.1)
        (case side5 => exact pC (Kd.bH oK.1).2.2)
        (case side6 => exact (Kd.bH oK.1).2.1)
        rintro e a4G ⟨M5, Db, rfl, eH, lW, hb⟩
        have HS2_ := (hb.cell (World.block_lt_of_cell? _ _ (hHeld.2.2.1))).trans (hHeld.2.2.1)
        have HS3_ := (hb.cell (World.block_lt_of_cell? _ _ (hHeld.2.2.2))).trans (hHeld.2.2.2)
        refine ⟨_, rfl, ?_⟩
        have rQ := am (Kd.dO (Kd.fF (Kd.fF (Kd.fF eH (Kd.R_lt fU)) (Kd.R_lt uX)) (Kd.R_lt yG)) (aG K2))
        have oC := am (Kd.jK (Kd.aJ (ok' := fun k_ => some k_ ≠ (M5 : Value).ownBlock ∧ some k_ ≠ (.slice jY dH.length k3 : Value).ownBlock ∧ some k_ ≠ (.slice qH eZ.length qM : Value).ownBlock ∧ some k_ ≠ (.slice (some kI) jX.length jV : Value).ownBlock ∧ some k_ ≠ (.slice RT GE.length SY : Value).ownBlock ∧ k_ ≠ bC ∧ k_ ≠ jO) (Kd.S_N (Kd.lG lW)) (fun k_ hk_ => ⟨hk_.1, (Kd.fresh' (Kd.R_lt fU) k_ hk_.2.1), (Kd.fresh' (Kd.N_lt lE) k_ hk_.2.1), (Kd.fresh' (Kd.R_lt uX) k_ hk_.2.1), (Kd.fresh' (Kd.R_lt yG) k_ hk_.2.1), (fB iD k_ hk_.2.1), (fB F8 k_ hk_.2.1)⟩)) (aG K2))
        replace aH := am (Kd.dV fU (Kd.bT eH) hb)
        replace aD := am (Kd.aJ (Kd.eY (Kd.eY (Kd.mZ lE hb) (Kd.bT eH)) kN) (fun _ h_ => h_.1))
        replace lM := am (Kd.dV uX (Kd.bT eH) hb)
        replace oK := am (Kd.dV yG (Kd.bT eH) hb)
        replace aV := bB iD hb
        replace mK := bB F8 hb
        replace HB := bS K2 hb
        clear hb eH lW
        refine hK.out _ _ ⟨(bP aV.1 0).trans rfl, (bP aV.1 1).trans rfl, HS2_, HS3_⟩ (fun hHeld => ?_)
        clear hK K
        refine nM ?_
        refine pU3 10 11 12 ?_
        exact AA IL (hCont (.slice RT GE.length SY, M5, Db, jO) _ ⟨hHeld, (by refine rR ?_; exact Kd.aT lM.1 (fun _ hk => ⟨hk.1.2, ⟨hk.2, hk.1.1.2⟩⟩)), (by refine rR ?_; exact Kd.aT oK.1 (fun _ hk => ⟨hk.1.2, ⟨hk.2, hk.1.1.2⟩⟩)), (by refine rR ?_; exact Kd.aT rQ.1 (fun _ hk => ⟨hk.1.2, ⟨hk.2, hk.1.1.2⟩⟩)), (by refine rN ?_; exact Kd.aJ oC.1 (fun _ hk => ⟨hk.2.2.2.1, ⟨hk.2.2.2.2.1, ⟨hk.1, ⟨hk.2.1, ⟨hk.2.2.1, ⟨hk.2.2.2.2.2.1, hk.2.2.2.2.2.2⟩⟩⟩⟩⟩⟩)), (by refine rR ?_; exact Kd.aT aH.1 (fun _ hk => ⟨hk.1.1.2, ⟨hk.1.2, hk.2⟩⟩)), (by refine rN ?_; exact Kd.aJ aD.1 (fun _ hk => ⟨hk.1.1.1.1.2, ⟨hk.1.1.2, ⟨hk.1.2, ⟨hk.2, ⟨hk.1.1.1.1.1.1, ⟨hk.1.1.1.1.1.2, hk.1.1.1.2⟩⟩⟩⟩⟩⟩)), iD, F8, MH.out, KD.1, oQ.1, wA.1, K2⟩)
      rintro ⟨v182, M5, Db, jO⟩ K8 ⟨hS_, h0_, h1_, h2_, h3_, h4_, h5_, h6_, h7_, h8_, h9_, h10_, h11_, h12_⟩
      replace lM : aC (Kd.R Kd.string 9 K8 w.heap.size (fun k_ => some k_ ≠ (v182 : Value).ownBlock ∧ some k_ ≠ (M5 : Value).ownBlock ∧ some k_ ≠ (.slice jY dH.length k3 : Value).ownBlock) (.slice (some kI) jX.length jV) jX) := ⟨h0_⟩
      have oK : aC (Kd.R Kd.string 9 K8 w.heap.size (fun k_ => some k_ ≠ (.slice (some kI) jX.length jV : Value).ownBlock ∧ some k_ ≠ (M5 : Value).ownBlock ∧ some k_ ≠ (.slice jY dH.length k3 : Value).ownBlock) v182 GE) := ⟨h1_⟩
      have rQ : aC (Kd.R Kd.string 9 K8 w.heap.size (fun k_ => some k_ ≠ (.slice (some kI) jX.length jV : Value).ownBlock ∧ some k_ ≠ (v182 : Value).ownBlock ∧ some k_ ≠ (.slice jY dH.length k3 : Value).ownBlock) M5 qW) := ⟨h2_⟩
      have oC : aC (Kd.N k52 52 K8 w.heap.size (fun k_ => some k_ ≠ (.slice (some kI) jX.length jV : Value).ownBlock ∧ some k_ ≠ (v182 : Value).ownBlock ∧ some k_ ≠ (M5 : Value).ownBlock ∧ some k_ ≠ (.slice jY dH.length k3 : Value).ownBlock ∧ some k_ ≠ (.slice qH eZ.length qM : Value).ownBlock ∧ k_ ≠ bC ∧ k_ ≠ jO) Db xI) := ⟨h3_⟩
      replace aH : aC (Kd.R Kd.string 9 K8 w.heap.size (fun k_ => some k_ ≠ (.slice (some kI) jX.length jV : Value).ownBlock ∧ some k_ ≠ (v182 : Value).ownBlock ∧ some k_ ≠ (M5 : Value).ownBlock) (.slice jY dH.length k3) dH) := ⟨h4_⟩
      replace aD : aC (Kd.N k52 52 K8 w.heap.size (fun k_ => some k_ ≠ (.slice (some kI) jX.length jV : Value).ownBlock ∧ some k_ ≠ (v182 : Value).ownBlock ∧ some k_ ≠ (M5 : Value).ownBlock ∧ some k_ ≠ (Db : Value).ownBlock ∧ some k_ ≠ (.slice jY dH.length k3 : Value).ownBlock ∧ k_ ≠ bC ∧ k_ ≠ jO) (.slice qH eZ.length qM) eZ) := ⟨h5_⟩
      replace aV : aC (K8.heap[bC]? = some (.cells #[.slice jY dH.length k3, .slice qH eZ.length qM] 26 (0, 0))) := ⟨h6_⟩
      have mK : aC (K8.heap[jO]? = some (.cells #[.slice none 0 0, .slice none 0 0] 26 (0, 0))) := ⟨h7_⟩
      have MH : aC (w.heap.size ≤ jO) := ⟨h8_⟩
      have KD : aC (w.heap.size ≤ jO) := ⟨h9_⟩
      have oQ : aC (bC ≠ jO) := ⟨h10_⟩
      have wA : aC (jO ≠ bC) := ⟨h11_⟩
      replace HB : aC (Below w.heap.size w K8) := ⟨h12_⟩
      clear h0_ h1_ h2_ h3_ h4_ h5_ h6_ h7_ h8_ h9_ h10_ h11_ h12_
      have hHeld : K8.cell? ⟨bC, 0, none⟩ = some (.slice jY dH.length k3) ∧ K8.cell? ⟨bC, 1, none⟩ = some (.slice qH eZ.length qM) ∧ K8.cell? kI = some (.string (rdOf ByteArray.empty jX 0)) ∧ K8.cell? kI = some (.string (rdOf ByteArray.empty jX 0)) := hS_
      obtain ⟨oH, oD, de⟩ := Kd.cZ rQ.1
      (first | subst de | (obtain ⟨f4_, f5_⟩ := sj de; subst f4_; subst f5_))
      obtain ⟨xX, xQ, df⟩ := Kd.gM oC.1
      (first | subst df | (obtain ⟨f4_, f5_⟩ := sj df; subst f4_; subst f5_))
      refine AA (a' := ?_) ?_ ?_
      rotate_left
      ·simp only [IQ, Act.put, List.setIfInBounds_toArray, List.set_cons_zero, List.set_cons_succ]
       rfl
      refine oN 14 none fun K hK => ?_
      have aNG : K8.cell? ⟨jO, 0, none⟩ = some (.slice none 0 0) := (bP mK.1 0).trans rfl
      have aE6 := gF mK.1 0
      have a2U := oQ.1
      have a2K := wA.1
      have aNH : K8.cell? ⟨jO, 1, none⟩ = some (.slice none 0 0) := (bP mK.1 1).trans rfl
      have aE7 := gF mK.1 1
      have a2V := oQ.1
      have a2L := wA.1
      refine AC (w1 := ?_) (by rfl) rfl ?_ ?_
      rotate_left
      ·go_simp
       rfl
      refine hK.out _ _ ⟨((cell_far (p := ⟨jO, _, none⟩) oQ.1 _).trans (((cell_far (p := ⟨jO, _, none⟩) oQ.1 _).trans (hHeld.1)))), ((cell_far (p := ⟨jO, _, none⟩) oQ.1 _).trans (((cell_far (p := ⟨jO, _, none⟩) oQ.1 _).trans (hHeld.2.1)))), ((cell_far (p := ⟨jO, _, none⟩) Xy _).trans (((cell_far (p := ⟨jO, _, none⟩) Xy _).trans (hHeld.2.2.1)))), ((cell_far (p := ⟨jO, _, none⟩) Xy _).trans (((cell_far (p := ⟨jO, _, none⟩) Xy _).trans (hHeld.2.2.2))))⟩ (fun hHeld => ?_)
      clear hK K
      refine pU1 15 ?_
      refine dN ?_
      try go_wp2
      obtain ⟨Gs, eW_⟩ := eW2 K8 jO (.slice oH qW.length oD) (.slice xX xI.length xQ)
      rw [← eW_]
      replace aH : aC (Kd.R Kd.string 9 Gs w.heap.size (fun k_ => some k_ ≠ (.slice (some kI) jX.length jV : Value).ownBlock ∧ some k_ ≠ (v182 : Value).ownBlock ∧ some k_ ≠ (.slice oH qW.length oD : Value).ownBlock) (.slice jY dH.length k3) dH) := by rw [eW_]; exact ⟨by refine rR ?_; exact Kd.aT (fR (fR (tR aH mK))) (fun _ hk => ⟨hk.1.1, ⟨hk.1.2.1, hk.1.2.2⟩⟩)⟩
      replace aD : aC (Kd.N k52 52 Gs w.heap.size (fun k_ => some k_ ≠ (.slice jY dH.length k3 : Value).ownBlock ∧ some k_ ≠ (.slice (some kI) jX.length jV : Value).ownBlock ∧ some k_ ≠ (v182 : Value).ownBlock ∧ some k_ ≠ (.slice oH qW.length oD : Value).ownBlock ∧ some k_ ≠ (.slice xX xI.length xQ : Value).ownBlock ∧ k_ ≠ bC ∧ k_ ≠ jO) (.slice qH eZ.length qM) eZ) := by rw [eW_]; exact ⟨by refine rN ?_; exact Kd.aJ (fN (fN (Kd.aJ aD.1 (fun k_ hk => (⟨hk, hk.2.2.2.2.2.2⟩ : _ ∧ k_ ≠ jO))))) (fun _ hk => ⟨hk.1.2.2.2.2.1, ⟨hk.1.1, ⟨hk.1.2.1, ⟨hk.1.2.2.1, ⟨hk.1.2.2.2.1, ⟨hk.1.2.2.2.2.2.1, hk.1.2.2.2.2.2.2⟩⟩⟩⟩⟩⟩)⟩
      replace lM : aC (Kd.R Kd.string 9 Gs w.heap.size (fun k_ => some k_ ≠ (.slice jY dH.length k3 : Value).ownBlock ∧ some k_ ≠ (v182 : Value).ownBlock ∧ some k_ ≠ (.slice oH qW.length oD : Value).ownBlock) (.slice (some kI) jX.length jV) jX) := by rw [eW_]; exact ⟨by refine rR ?_; exact Kd.aT (fR (fR (tR lM mK))) (fun _ hk => ⟨hk.1.2.2, ⟨hk.1.1, hk.1.2.1⟩⟩)⟩
      replace oK : aC (Kd.R Kd.string 9 Gs w.heap.size (fun k_ => some k_ ≠ (.slice jY dH.length k3 : Value).ownBlock ∧ some k_ ≠ (.slice (some kI) jX.length jV : Value).ownBlock ∧ some k_ ≠ (.slice oH qW.length oD : Value).ownBlock) v182 GE) := by rw [eW_]; exact ⟨by refine rR ?_; exact Kd.aT (fR (fR (tR oK mK))) (fun _ hk => ⟨hk.1.2.2, ⟨hk.1.1, hk.1.2.1⟩⟩)⟩
      replace rQ : aC (Kd.R Kd.string 9 Gs w.heap.size (fun k_ => some k_ ≠ (.slice jY dH.length k3 : Value).ownBlock ∧ some k_ ≠ (.slice (some kI) jX.length jV : Value).ownBlock ∧ some k_ ≠ (v182 : Value).ownBlock) (.slice oH qW.length oD) qW) := by rw [eW_]; exact ⟨by refine rR ?_; exact Kd.aT (fR (fR (tR rQ mK))) (fun _ hk => ⟨hk.1.2.2, ⟨hk.1.1, hk.1.2.1⟩⟩)⟩
      replace oC : aC (Kd.N k52 52 Gs w.heap.size (fun k_ => some k_ ≠ (.slice jY dH.length k3 : Value).ownBlock ∧ some k_ ≠ (.slice qH eZ.length qM : Value).ownBlock ∧ some k_ ≠ (.slice (some kI) jX.length jV : Value).ownBlock ∧ some k_ ≠ (v182 : Value).ownBlock ∧ some k_ ≠ (.slice oH qW.length oD : Value).ownBlock ∧ k_ ≠ bC ∧ k_ ≠ jO) (.slice xX xI.length xQ) xI) := by rw [eW_]; exact ⟨by refine rN ?_; exact Kd.aJ (fN (fN (Kd.aJ oC.1 (fun k_ hk => (⟨hk, hk.2.2.2.2.2.2⟩ : _ ∧ k_ ≠ jO))))) (fun _ hk => ⟨hk.1.2.2.2.1, ⟨hk.1.2.2.2.2.1, ⟨hk.1.1, ⟨hk.1.2.1, ⟨hk.1.2.2.1, ⟨hk.1.2.2.2.2.2.1, hk.1.2.2.2.2.2.2⟩⟩⟩⟩⟩⟩)⟩
      replace aV := uF2 eW_ aV oQ
      replace mK := uP2 eW_ mK
      replace HB := uC2 eW_ HB KD
      clear eW_
      replace aH := RD aH
      replace aD := ND aD
      replace lM := RD lM
      replace oK := RD oK
      replace rQ := RD rQ
      replace oC := ND oC
      replace aV := BD aV
      replace mK := BD mK
      replace HB := am (aY HB.1)
      have qn : 0 ≤ (0 : Int) := (by omega)
      have rb : 0 < (jX.length : Int) := oT
      obtain ⟨zr, aD1, RK⟩ := Kd.xP (Kd.bH lM.1).2.2 0 qn rb
      obtain rfl : kI = zr := (by injection aD1)
      have qi192 : (0 < jX.length) = True := eq_true (by omega)
      (try rw [show ((0 : Int)).toNat = 0 from rfl] at RK)
      (try rw [Addr.add_zero'] at RK)
      replace qn := eq_true qn
      replace rb := eq_true rb
      refine sT (S := fun w' => w'.cell? ⟨jO, 0, none⟩ = some (.slice oH qW.length oD) ∧ w'.cell? ⟨jO, 1, none⟩ = some (.slice xX xI.length xQ) ∧ w'.cell? kI = some (.string (rdOf ByteArray.empty jX 0))) [] 11 ⟨⟨(bP mK.1 0).trans rfl, (bP mK.1 1).trans rfl, RK⟩⟩ (fun hHeld => ?_)
      refine fP dE.a3V dE.lc (fun HT_ HW_ => ?_)
      generalize Gs.drew = aUK at aH aD lM oK rQ oC aV mK HB RK hHeld ⊢
      refine pU2 1 2 ?_
      refine tK3 0 (some 173) ?_
      refine tK3 3 (some 176) ?_
      refine Jr (σ := Value × Value × Nat) 2 (bz 11 511) (fun s_ => [(177, .tuple #[.agg #[s_.1, s_.2.1], .int .i64 Cx]), (15, .pointer (some ⟨s_.2.2, 0, none⟩)), (172, .tuple #[.agg #[s_.1, s_.2.1], .int .i64 Cx]), (178, .agg #[s_.1, s_.2.1]), (179, .int .i64 Cx)]) (fun s_ w' => (w'.cell? ⟨jO, 0, none⟩ = some (.slice oH qW.length oD) ∧ w'.cell? ⟨jO, 1, none⟩ = some (.slice xX xI.length xQ) ∧ w'.cell? kI = some (.string (rdOf ByteArray.empty jX 0))) ∧ (Kd.R Kd.string 9 w' w.heap.size (fun k_ => some k_ ≠ (v182 : Value).ownBlock ∧ some k_ ≠ (.slice oH qW.length oD : Value).ownBlock ∧ some k_ ≠ (s_.1 : Value).ownBlock ∧ some k_ ≠ (.slice jY dH.length k3 : Value).ownBlock) (.slice (some kI) jX.length jV) jX) ∧ (Kd.R Kd.string 9 w' w.heap.size (fun k_ => some k_ ≠ (.slice (some kI) jX.length jV : Value).ownBlock ∧ some k_ ≠ (.slice oH qW.length oD : Value).ownBlock ∧ some k_ ≠ (s_.1 : Value).ownBlock ∧ some k_ ≠ (.slice jY dH.length k3 : Value).ownBlock) v182 GE) ∧ (Kd.R Kd.string 9 w' w.heap.size (fun k_ => some k_ ≠ (.slice (some kI) jX.length jV : Value).ownBlock ∧ some k_ ≠ (v182 : Value).ownBlock ∧ some k_ ≠ (s_.1 : Value).ownBlock ∧ some k_ ≠ (.slice jY dH.length k3 : Value).ownBlock) (.slice oH qW.length oD) qW) ∧ (Kd.N k52 52 w' w.heap.size (fun k_ => some k_ ≠ (.slice (some kI) jX.length jV : Value).ownBlock ∧ some k_ ≠ (v182 : Value).ownBlock ∧ some k_ ≠ (.slice oH qW.length oD : Value).ownBlock ∧ some k_ ≠ (s_.1 : Value).ownBlock ∧ some k_ ≠ (s_.2.1 : Value).ownBlock ∧ some k_ ≠ (.slice jY dH.length k3 : Value).ownBlock ∧ some k_ ≠ (.slice qH eZ.length qM : Value).ownBlock ∧ k_ ≠ bC ∧ k_ ≠ jO ∧ k_ ≠ s_.2.2) (.slice xX xI.length xQ) xI) ∧ (Kd.R Kd.string 9 w' w.heap.size (fun k_ => some k_ ≠ (.slice (some kI) jX.length jV : Value).ownBlock ∧ some k_ ≠ (v182 : Value).ownBlock ∧ some k_ ≠ (.slice oH qW.length oD : Value).ownBlock ∧ some k_ ≠ (.slice jY dH.length k3 : Value).ownBlock) s_.1 ZE) ∧ (Kd.N k52 52 w' w.heap.size (fun k_ => some k_ ≠ (.slice (some kI) jX.length jV : Value).ownBlock ∧ some k_ ≠ (v182 : Value).ownBlock ∧ some k_ ≠ (.slice oH qW.length oD : Value).ownBlock ∧ some k_ ≠ (.slice xX xI.length xQ : Value).ownBlock ∧ some k_ ≠ (s_.1 : Value).ownBlock ∧ some k_ ≠ (.slice jY dH.length k3 : Value).ownBlock ∧ some k_ ≠ (.slice qH eZ.length qM : Value).ownBlock ∧ k_ ≠ bC ∧ k_ ≠ jO ∧ k_ ≠ s_.2.2) s_.2.1 Cw) ∧ (Kd.R Kd.string 9 w' w.heap.size (fun k_ => some k_ ≠ (.slice (some kI) jX.length jV : Value).ownBlock ∧ some k_ ≠ (v182 : Value).ownBlock ∧ some k_ ≠ (.slice oH qW.length oD : Value).ownBlock ∧ some k_ ≠ (s_.1 : Value).ownBlock) (.slice jY dH.length k3) dH) ∧ (Kd.N k52 52 w' w.heap.size (fun k_ => some k_ ≠ (.slice (some kI) jX.length jV : Value).ownBlock ∧ some k_ ≠ (v182 : Value).ownBlock ∧ some k_ ≠ (.slice oH qW.length oD : Value).ownBlock ∧ some k_ ≠ (.slice xX xI.length xQ : Value).ownBlock ∧ some k_ ≠ (s_.1 : Value).ownBlock ∧ some k_ ≠ (s_.2.1 : Value).ownBlock ∧ some k_ ≠ (.slice jY dH.length k3 : Value).ownBlock ∧ k_ ≠ bC ∧ k_ ≠ jO ∧ k_ ≠ s_.2.2) (.slice qH eZ.length qM) eZ) ∧ (w'.heap[bC]? = some (.cells #[.slice jY dH.length k3, .slice qH eZ.length qM] 26 (0, 0))) ∧ (w'.heap[jO]? = some (.cells #[.slice oH qW.length oD, .slice xX xI.length xQ] 26 (0, 0))) ∧ (w'.heap[s_.2.2]? = some (.cells #[.slice none 0 0, .slice none 0 0] 26 (0, 0))) ∧ (w.heap.size ≤ s_.2.2) ∧ (w.heap.size ≤ s_.2.2) ∧ (bC ≠ s_.2.2) ∧ (s_.2.2 ≠ bC) ∧ (jO ≠ s_.2.2) ∧ (s_.2.2 ≠ jO) ∧ (Below w.heap.size w w')) ?_ ?_
      rotate_left
      ·intro hCont
       refine two_ (i := 4) (j := 8) (Ni := some 177) (Nj := some 15) (bz 11 31) (bz 11 271) rfl rfl rfl rfl (M4 HT_.out (by kernel_rfl)) (by decide) (by decide) (fun K hK => ?_) (fun K hK => ?_)
       ·skip
        refine GZ Tryz.func11 (by kernel_rfl) rfl #[.agg #[.slice oH qW.length oD, .slice xX xI.length xQ], .string (rdOf ByteArray.empty jX 0)] (by rfl) rfl rfl AS ?_
        with_reducible refine (lK.calls k2 _ _ qW _ _ xI (rdOf ByteArray.empty jX 0) ZE Cw Cx _ ?side1 ?side2 ?side3 ?side4 uj.out).mono ?_
        (case side1 => exact pC (Kd.bH rQ.1).2.2)
        (case side2 => exact (Kd.bH rQ.1).2.1)
        (case side3 => exact pC (Kd.d9 oC.1).2.2)
        (case side4 => exact (Kd.d9 oC.1).2.1)
        rintro e aG0 ⟨O6, Gr, rfl, eH, lW, hb⟩
        have HS2_ := (hb.cell (World.block_lt_of_cell? _ _ (hHeld.2.2))).trans (hHeld.2.2)
        refine ⟨_, rfl, ?_⟩
        have KF := am (Kd.dO (Kd.fF (Kd.fF (Kd.fF (Kd.fF eH (Kd.R_lt fU)) (Kd.R_lt uX)) (Kd.R_lt yG)) (Kd.R_lt NU)) (aG K2))
        have KG := am (Kd.jK (Kd.aJ (ok' := fun k_ => some k_ ≠ (O6 : Value).ownBlock ∧ some k_ ≠ (.slice jY dH.length k3 : Value).ownBlock ∧ some k_ ≠ (.slice qH eZ.length qM : Value).ownBlock ∧ some k_ ≠ (.slice (some kI) jX.length jV : Value).ownBlock ∧ some k_ ≠ (v182 : Value).ownBlock ∧ some k_ ≠ (.slice oH qW.length oD : Value).ownBlock ∧ some k_ ≠ (.slice xX xI.length xQ : Value).ownBlock ∧ k_ ≠ bC ∧ k_ ≠ jO) (Kd.S_N (Kd.lG lW)) (fun k_ hk_ => ⟨hk_.1, (Kd.fresh' (Kd.R_lt fU) k_ hk_.2.1), (Kd.fresh' (Kd.N_lt lE) k_ hk_.2.1), (Kd.fresh' (Kd.R_lt uX) k_ hk_.2.1), (Kd.fresh' (Kd.R_lt yG) k_ hk_.2.1), (Kd.fresh' (Kd.R_lt NU) k_ hk_.2.1), (Kd.fresh' (Kd.N_lt (rN oC.1)) k_ hk_.2.1), (fB iD k_ hk_.2.1), (fB F8 k_ hk_.2.1)⟩)) (aG K2))
        replace aH := am (Kd.dV fU (Kd.bT eH) hb)
        replace aD := am (Kd.aJ (Kd.eY (Kd.eY (Kd.mZ lE hb) (Kd.bT eH)) kN) (fun _ h_ => h_.1))
        replace lM := am (Kd.dV uX (Kd.bT eH) hb)
        replace oK := am (Kd.dV yG (Kd.bT eH) hb)
        replace rQ := am (Kd.dV NU (Kd.bT eH) hb)
        replace oC := am (Kd.aJ (Kd.eY (Kd.eY (Kd.mZ (rN oC.1) hb) (Kd.bT eH)) kN) (fun _ h_ => h_.1))
        replace aV := bB iD hb
        replace mK := bB F8 hb
        replace HB := bS K2 hb
        clear hb eH lW
        refine hK.out _ _ ⟨(bP mK.1 0).trans rfl, (bP mK.1 1).trans rfl, HS2_⟩ (fun hHeld => ?_)
        clear hK K
        refine nM ?_
        refine pU3 5 6 7 ?_
        refine oN 8 (some 15) fun K hK => ?_
        refine I4 ?hg (N := 15) ?hd (cs := #[.slice none 0 0, .slice none 0 0]) (t := 26) ?hr ?_; (case hd => rfl); (case hg => rfl); (case hr => first | (go_simp; done) | (go_simp; rfl))
        intro nS hg aG1 hbox hb
        have HS2_ := (hb.cell (World.block_lt_of_cell? _ _ (hHeld.2.2))).trans (hHeld.2.2)
        replace aH := RB fU hb
        replace aD := am (Kd.iI (Kd.jU lE nS (Nat.le_of_eq hg.symm)) hb)
        replace lM := RB uX hb
        replace oK := RB yG hb
        replace rQ := RB NU hb
        replace oC := am (Kd.iI (Kd.jU (rN oC.1) nS (Nat.le_of_eq hg.symm)) hb)
        replace KF := am (Kd.jA (rR KF.1) hb)
        replace KG := am (Kd.iI (Kd.jU (rN KG.1) nS (Nat.le_of_eq hg.symm)) hb)
        have sN := am hbox
        have V4 := am (a3F : w.heap.size ≤ nS)
        have ZR := V4
        replace HB := bS K2 hb
        have xO := nL iD hg
        have zB := nG iD hg
        replace aV := bB iD hb
        have rJ := nL F8 hg
        have zC := nG F8 hg
        replace mK := bB F8 hb
        clear hb hbox hg
        refine hK.out _ _ ⟨(bP mK.1 0).trans rfl, (bP mK.1 1).trans rfl, HS2_⟩ (fun hHeld => ?_)
        clear hK K
        refine nM ?_
        exact AA IL (hCont (O6, Gr, nS) _ ⟨hHeld, (by refine rR ?_; exact Kd.aT lM.1 (fun _ hk => ⟨hk.1.2.1, ⟨hk.1.2.2, ⟨hk.2, hk.1.1⟩⟩⟩)), (by refine rR ?_; exact Kd.aT oK.1 (fun _ hk => ⟨hk.1.2.1, ⟨hk.1.2.2, ⟨hk.2, hk.1.1⟩⟩⟩)), (by refine rR ?_; exact Kd.aT rQ.1 (fun _ hk => ⟨hk.1.2.1, ⟨hk.1.2.2, ⟨hk.2, hk.1.1⟩⟩⟩)), (by refine rN ?_; exact Kd.aJ oC.1 (fun _ hk => ⟨hk.1.1.1.2.2.1, ⟨hk.1.1.1.2.2.2.1, ⟨hk.1.1.1.2.2.2.2.1, ⟨hk.1.1.2, ⟨hk.1.2, ⟨hk.1.1.1.1, ⟨hk.1.1.1.2.1, ⟨hk.1.1.1.2.2.2.2.2.1, ⟨hk.1.1.1.2.2.2.2.2.2, hk.2⟩⟩⟩⟩⟩⟩⟩⟩⟩)), (by refine rR ?_; exact Kd.aT KF.1 (fun _ hk => ⟨hk.1.1.2, ⟨hk.1.2, ⟨hk.2, hk.1.1.1.2⟩⟩⟩)), (by refine rN ?_; exact Kd.aJ KG.1 (fun _ hk => ⟨hk.1.2.2.2.1, ⟨hk.1.2.2.2.2.1, ⟨hk.1.2.2.2.2.2.1, ⟨hk.1.2.2.2.2.2.2.1, ⟨hk.1.1, ⟨hk.1.2.1, ⟨hk.1.2.2.1, ⟨hk.1.2.2.2.2.2.2.2.1, ⟨hk.1.2.2.2.2.2.2.2.2, hk.2⟩⟩⟩⟩⟩⟩⟩⟩⟩)), (by refine rR ?_; exact Kd.aT aH.1 (fun _ hk => ⟨hk.1.1, ⟨hk.1.2.1, ⟨hk.1.2.2, hk.2⟩⟩⟩)), (by refine rN ?_; exact Kd.aJ aD.1 (fun _ hk => ⟨hk.1.1.1.2.1, ⟨hk.1.1.1.2.2.1, ⟨hk.1.1.1.2.2.2.1, ⟨hk.1.1.1.2.2.2.2.1, ⟨hk.1.1.2, ⟨hk.1.2, ⟨hk.1.1.1.1, ⟨hk.1.1.1.2.2.2.2.2.1, ⟨hk.1.1.1.2.2.2.2.2.2, hk.2⟩⟩⟩⟩⟩⟩⟩⟩⟩)), iD, F8, (rB sN.1), V4.out, ZR.1, xO.1, zB.1, rJ.1, zC.1, Gf⟩)
       ·skip
        refine I4 ?hg (N := 15) ?hd (cs := #[.slice none 0 0, .slice none 0 0]) (t := 26) ?hr ?_; (case hd => rfl); (case hg => rfl); (case hr => first | (go_simp; done) | (go_simp; rfl))
        intro nS hg aG0 hbox hb
        have HS2_ := (hb.cell (World.block_lt_of_cell? _ _ (hHeld.2.2))).trans (hHeld.2.2)
        replace aH := RB fU hb
        replace aD := am (Kd.iI (Kd.jU lE nS (Nat.le_of_eq hg.symm)) hb)
        replace lM := RB uX hb
        replace oK := RB yG hb
        replace rQ := RB NU hb
        replace oC := am (Kd.iI (Kd.jU (rN oC.1) nS (Nat.le_of_eq hg.symm)) hb)
        have sN := am hbox
        have V4 := am (a3F : w.heap.size ≤ nS)
        have ZR := V4
        replace HB := bS K2 hb
        have xO := nL iD hg
        have zB := nG iD hg
        replace aV := bB iD hb
        have rJ := nL F8 hg
        have zC := nG F8 hg
        replace mK := bB F8 hb
        clear hb hbox hg
        refine hK.out _ _ ⟨(bP mK.1 0).trans rfl, (bP mK.1 1).trans rfl, HS2_⟩ (fun hHeld => ?_)
        clear hK K
        refine nM ?_
        refine oN 4 (some 177) fun K hK => ?_
        refine GZ Tryz.func11 (by kernel_rfl) rfl #[.agg #[.slice oH qW.length oD, .slice xX xI.length xQ], .string (rdOf ByteArray.empty jX 0)] (by rfl) rfl rfl AS ?_
        with_reducible refine (lK.calls k2 _ _ qW _ _ xI (rdOf ByteArray.empty jX 0) ZE Cw Cx _ ?side1 ?side2 ?side3 ?side4 uj.out).mono ?_
        (case side1 => exact pC (Kd.bH rQ.1).2.2)
        (case side2 => exact (Kd.bH rQ.1).2.1)
        (case side3 => exact pC (Kd.d9 oC.1).2.2)
        (case side4 => exact (Kd.d9 oC.1).2.1)
        rintro e aG1 ⟨O6, Gr, rfl, eH, lW, hb⟩
        have HS2_ := (hb.cell (World.block_lt_of_cell? _ _ (hHeld.2.2))).trans (hHeld.2.2)
        refine ⟨_, rfl, ?_⟩
        have KF := am (Kd.dO (Kd.fF (Kd.fF (Kd.fF (Kd.fF eH (Kd.R_lt fU)) (Kd.R_lt uX)) (Kd.R_lt yG)) (Kd.R_lt NU)) (aG Gf))
        have KG := am (Kd.jK (Kd.aJ (ok' := fun k_ => some k_ ≠ (O6 : Value).ownBlock ∧ some k_ ≠ (.slice jY dH.length k3 : Value).ownBlock ∧ some k_ ≠ (.slice qH eZ.length qM : Value).ownBlock ∧ some k_ ≠ (.slice (some kI) jX.length jV : Value).ownBlock ∧ some k_ ≠ (v182 : Value).ownBlock ∧ some k_ ≠ (.slice oH qW.length oD : Value).ownBlock ∧ some k_ ≠ (.slice xX xI.length xQ : Value).ownBlock ∧ k_ ≠ bC ∧ k_ ≠ jO ∧ k_ ≠ nS) (Kd.S_N (Kd.lG lW)) (fun k_ hk_ => ⟨hk_.1, (Kd.fresh' (Kd.R_lt fU) k_ hk_.2.1), (Kd.fresh' (Kd.N_lt lE) k_ hk_.2.1), (Kd.fresh' (Kd.R_lt uX) k_ hk_.2.1), (Kd.fresh' (Kd.R_lt yG) k_ hk_.2.1), (Kd.fresh' (Kd.R_lt NU) k_ hk_.2.1), (Kd.fresh' (Kd.N_lt (rN oC.1)) k_ hk_.2.1), (fB iD k_ hk_.2.1), (fB F8 k_ hk_.2.1), (Kd.jD (g := nS) (o := .cells #[.slice none 0 0, .slice none 0 0] 26 (0, 0)) (rB sN.1) k_ hk_.2.1)⟩)) (aG Gf))
        replace aH := am (Kd.dV fU (Kd.bT eH) hb)
        replace aD := am (Kd.aJ (Kd.eY (Kd.eY (Kd.mZ lE hb) (Kd.bT eH)) kN) (fun _ h_ => h_.1))
        replace lM := am (Kd.dV uX (Kd.bT eH) hb)
        replace oK := am (Kd.dV yG (Kd.bT eH) hb)
        replace rQ := am (Kd.dV NU (Kd.bT eH) hb)
        replace oC := am (Kd.aJ (Kd.eY (Kd.eY (Kd.mZ (rN oC.1) hb) (Kd.bT eH)) kN) (fun _ h_ => h_.1))
        replace aV := bB iD hb
        replace mK := bB F8 hb
        replace sN := am (aX (g := nS) (o := .cells #[.slice none 0 0, .slice none 0 0] 26 (0, 0)) (rB sN.1) hb)
        replace HB := bS Gf hb
        clear hb eH lW
        refine hK.out _ _ ⟨(bP mK.1 0).trans rfl, (bP mK.1 1).trans rfl, HS2_⟩ (fun hHeld => ?_)
        clear hK K
        refine nM ?_
        refine pU3 5 6 7 ?_
        exact AA IL (hCont (O6, Gr, nS) _ ⟨hHeld, (by refine rR ?_; exact Kd.aT lM.1 (fun _ hk => ⟨hk.1.2.1, ⟨hk.1.2.2, ⟨hk.2, hk.1.1⟩⟩⟩)), (by refine rR ?_; exact Kd.aT oK.1 (fun _ hk => ⟨hk.1.2.1, ⟨hk.1.2.2, ⟨hk.2, hk.1.1⟩⟩⟩)), (by refine rR ?_; exact Kd.aT rQ.1 (fun _ hk => ⟨hk.1.2.1, ⟨hk.1.2.2, ⟨hk.2, hk.1.1⟩⟩⟩)), (by refine rN ?_; exact Kd.aJ oC.1 (fun _ hk => ⟨hk.1.1.1.2.2.1, ⟨hk.1.1.1.2.2.2.1, ⟨hk.1.1.1.2.2.2.2.1, ⟨hk.1.2, ⟨hk.2, ⟨hk.1.1.1.1, ⟨hk.1.1.1.2.1, ⟨hk.1.1.1.2.2.2.2.2.1, ⟨hk.1.1.1.2.2.2.2.2.2, hk.1.1.2⟩⟩⟩⟩⟩⟩⟩⟩⟩)), (by refine rR ?_; exact Kd.aT KF.1 (fun _ hk => ⟨hk.1.1.2, ⟨hk.1.2, ⟨hk.2, hk.1.1.1.2⟩⟩⟩)), (by refine rN ?_; exact Kd.aJ KG.1 (fun _ hk => ⟨hk.2.2.2.1, ⟨hk.2.2.2.2.1, ⟨hk.2.2.2.2.2.1, ⟨hk.2.2.2.2.2.2.1, ⟨hk.1, ⟨hk.2.1, ⟨hk.2.2.1, ⟨hk.2.2.2.2.2.2.2.1, ⟨hk.2.2.2.2.2.2.2.2.1, hk.2.2.2.2.2.2.2.2.2⟩⟩⟩⟩⟩⟩⟩⟩⟩)), (by refine rR ?_; exact Kd.aT aH.1 (fun _ hk => ⟨hk.1.1, ⟨hk.1.2.1, ⟨hk.1.2.2, hk.2⟩⟩⟩)), (by refine rN ?_; exact Kd.aJ aD.1 (fun _ hk => ⟨hk.1.1.1.2.1, ⟨hk.1.1.1.2.2.1, ⟨hk.1.1.1.2.2.2.1, ⟨hk.1.1.1.2.2.2.2.1, ⟨hk.1.2, ⟨hk.2, ⟨hk.1.1.1.1, ⟨hk.1.1.1.2.2.2.2.2.1, ⟨hk.1.1.1.2.2.2.2.2.2, hk.1.1.2⟩⟩⟩⟩⟩⟩⟩⟩⟩)), iD, F8, (rB sN.1), V4.out, ZR.1, xO.1, zB.1, rJ.1, zC.1, Gf⟩)
      rintro ⟨O6, Gr, nS⟩ IW ⟨hS_, h0_, h1_, h2_, h3_, h4_, h5_, h6_, h7_, h8_, h9_, h10_, h11_, h12_, h13_, h14_, h15_, h16_, h17_⟩
      replace lM : aC (Kd.R Kd.string 9 IW w.heap.size (fun k_ => some k_ ≠ (v182 : Value).ownBlock ∧ some k_ ≠ (.slice oH qW.length oD : Value).ownBlock ∧ some k_ ≠ (O6 : Value).ownBlock ∧ some k_ ≠ (.slice jY dH.length k3 : Value).ownBlock) (.slice (some kI) jX.length jV) jX) := ⟨h0_⟩
      replace oK : aC (Kd.R Kd.string 9 IW w.heap.size (fun k_ => some k_ ≠ (.slice (some kI) jX.length jV : Value).ownBlock ∧ some k_ ≠ (.slice oH qW.length oD : Value).ownBlock ∧ some k_ ≠ (O6 : Value).ownBlock ∧ some k_ ≠ (.slice jY dH.length k3 : Value).ownBlock) v182 GE) := ⟨h1_⟩
      replace rQ : aC (Kd.R Kd.string 9 IW w.heap.size (fun k_ => some k_ ≠ (.slice (some kI) jX.length jV : Value).ownBlock ∧ some k_ ≠ (v182 : Value).ownBlock ∧ some k_ ≠ (O6 : Value).ownBlock ∧ some k_ ≠ (.slice jY dH.length k3 : Value).ownBlock) (.slice oH qW.length oD) qW) := ⟨h2_⟩
      replace oC : aC (Kd.N k52 52 IW w.heap.size (fun k_ => some k_ ≠ (.slice (some kI) jX.length jV : Value).ownBlock ∧ some k_ ≠ (v182 : Value).ownBlock ∧ some k_ ≠ (.slice oH qW.length oD : Value).ownBlock ∧ some k_ ≠ (O6 : Value).ownBlock ∧ some k_ ≠ (Gr : Value).ownBlock ∧ some k_ ≠ (.slice jY dH.length k3 : Value).ownBlock ∧ some k_ ≠ (.slice qH eZ.length qM : Value).ownBlock ∧ k_ ≠ bC ∧ k_ ≠ jO ∧ k_ ≠ nS) (.slice xX xI.length xQ) xI) := ⟨h3_⟩
      have KF : aC (Kd.R Kd.string 9 IW w.heap.size (fun k_ => some k_ ≠ (.slice (some kI) jX.length jV : Value).ownBlock ∧ some k_ ≠ (v182 : Value).ownBlock ∧ some k_ ≠ (.slice oH qW.length oD : Value).ownBlock ∧ some k_ ≠ (.slice jY dH.length k3 : Value).ownBlock) O6 ZE) := ⟨h4_⟩
      have KG : aC (Kd.N k52 52 IW w.heap.size (fun k_ => some k_ ≠ (.slice (some kI) jX.length jV : Value).ownBlock ∧ some k_ ≠ (v182 : Value).ownBlock ∧ some k_ ≠ (.slice oH qW.length oD : Value).ownBlock ∧ some k_ ≠ (.slice xX xI.length xQ : Value).ownBlock ∧ some k_ ≠ (O6 : Value).ownBlock ∧ some k_ ≠ (.slice jY dH.length k3 : Value).ownBlock ∧ some k_ ≠ (.slice qH eZ.length qM : Value).ownBlock ∧ k_ ≠ bC ∧ k_ ≠ jO ∧ k_ ≠ nS) Gr Cw) := ⟨h5_⟩
      replace aH : aC (Kd.R Kd.string 9 IW w.heap.size (fun k_ => some k_ ≠ (.slice (some kI) jX.length jV : Value).ownBlock ∧ some k_ ≠ (v182 : Value).ownBlock ∧ some k_ ≠ (.slice oH qW.length oD : Value).ownBlock ∧ some k_ ≠ (O6 : Value).ownBlock) (.slice jY dH.length k3) dH) := ⟨h6_⟩
      replace aD : aC (Kd.N k52 52 IW w.heap.size (fun k_ => some k_ ≠ (.slice (some kI) jX.length jV : Value).ownBlock ∧ some k_ ≠ (v182 : Value).ownBlock ∧ some k_ ≠ (.slice oH qW.length oD : Value).ownBlock ∧ some k_ ≠ (.slice xX xI.length xQ : Value).ownBlock ∧ some k_ ≠ (O6 : Value).ownBlock ∧ some k_ ≠ (Gr : Value).ownBlock ∧ some k_ ≠ (.slice jY dH.length k3 : Value).ownBlock ∧ k_ ≠ bC ∧ k_ ≠ jO ∧ k_ ≠ nS) (.slice qH eZ.length qM) eZ) := ⟨h7_⟩
      replace aV : aC (IW.heap[bC]? = some (.cells #[.slice jY dH.length k3, .slice qH eZ.length qM] 26 (0, 0))) := ⟨h8_⟩
      replace mK : aC (IW.heap[jO]? = some (.cells #[.slice oH qW.length oD, .slice xX xI.length xQ] 26 (0, 0))) := ⟨h9_⟩
      have sN : aC (IW.heap[nS]? = some (.cells #[.slice none 0 0, .slice none 0 0] 26 (0, 0))) := ⟨h10_⟩
      have V4 : aC (w.heap.size ≤ nS) := ⟨h11_⟩
      have ZR : aC (w.heap.size ≤ nS) := ⟨h12_⟩
      have xO : aC (bC ≠ nS) := ⟨h13_⟩
      have zB : aC (nS ≠ bC) := ⟨h14_⟩
      have rJ : aC (jO ≠ nS) := ⟨h15_⟩
      have zC : aC (nS ≠ jO) := ⟨h16_⟩
      replace HB : aC (Below w.heap.size w IW) := ⟨h17_⟩
      clear h0_ h1_ h2_ h3_ h4_ h5_ h6_ h7_ h8_ h9_ h10_ h11_ h12_ h13_ h14_ h15_ h16_ h17_
      have hHeld : IW.cell? ⟨jO, 0, none⟩ = some (.slice oH qW.length oD) ∧ IW.cell? ⟨jO, 1, none⟩ = some (.slice xX xI.length xQ) ∧ IW.cell? kI = some (.string (rdOf ByteArray.empty jX 0)) := hS_
      obtain ⟨Gy, Il, dg⟩ := Kd.cZ KF.1
      (first | subst dg | (obtain ⟨f4_, f5_⟩ := sj dg; subst f4_; subst f5_))
      obtain ⟨Nt, Qx, dh⟩ := Kd.gM KG.1
      (first | subst dh | (obtain ⟨f4_, f5_⟩ := sj dh; subst f4_; subst f5_))
      refine AA (a' := ?_) ?_ ?_
      rotate_left
      ·simp only [IQ, Act.put, List.setIfInBounds_toArray, List.set_cons_zero, List.set_cons_succ]
       rfl
      refine oN 9 none fun K hK => ?_
      have aNI : IW.cell? ⟨nS, 0, none⟩ = some (.slice none 0 0) := (bP sN.1 0).trans rfl
      have aE8 := gF sN.1 0
      have a2W := xO.1
      have a2X := rJ.1
      have a2M := zB.1
      have a2N := zC.1
      have aNJ : IW.cell? ⟨nS, 1, none⟩ = some (.slice none 0 0) := (bP sN.1 1).trans rfl
      have aE9 := gF sN.1 1
      have a2Y := xO.1
      have a2Z := rJ.1
      have a2O := zB.1
      have a2P := zC.1
      refine AC (w1 := ?_) (by rfl) rfl ?_ ?_
      rotate_left
      ·go_simp
       rfl
      refine hK.out _ _ ⟨((cell_far (p := ⟨nS, _, none⟩) rJ.1 _).trans (((cell_far (p := ⟨nS, _, none⟩) rJ.1 _).trans (hHeld.1)))), ((cell_far (p := ⟨nS, _, none⟩) rJ.1 _).trans (((cell_far (p := ⟨nS, _, none⟩) rJ.1 _).trans (hHeld.2.1)))), ((cell_far (p := ⟨nS, _, none⟩) (by first | exact Kd.wH (Kd.R_ne lM.1 sN.1 (by decide)) | (rw [add_block]; exact Kd.wH (Kd.R_ne lM.1 sN.1 (by decide))) | (show (Addr.add _ _).block ≠ _; rw [add_block]; exact Kd.wH (Kd.R_ne lM.1 sN.1 (by decide))) | (dsimp only; exact Kd.wH (Kd.R_ne lM.1 sN.1 (by decide)))) _).trans (((cell_far (p := ⟨nS, _, none⟩) (by first | exact Kd.wH (Kd.R_ne lM.1 sN.1 (by decide)) | (rw [add_block]; exact Kd.wH (Kd.R_ne lM.1 sN.1 (by decide))) | (show (Addr.add _ _).block ≠ _; rw [add_block]; exact Kd.wH (Kd.R_ne lM.1 sN.1 (by decide))) | (dsimp only; exact Kd.wH (Kd.R_ne lM.1 sN.1 (by decide)))) _).trans (hHeld.2.2))))⟩ (fun hHeld => ?_)
      clear hK K
      refine pU1 10 ?_
      refine dN ?_
      have aRI := nZ2 wA oQ rJ zC
      have aRJ := cz2 mK
      try go_wp2_with (first | (go_at_call 15; (with_reducible refine (jH.calls k2 _ _ qW _ _ xI true _ ?side1 ?side2 ?side3 ?side4 aA9.out).mono ?_); (case side1 => refine (Kd.bH (e := 9) (base := w.heap.size) (ok := fun k_ => (some k_ ≠ (.slice (some kI) jX.length jV : Value).ownBlock ∧ (some k_ ≠ (v182 : Value).ownBlock ∧ (some k_ ≠ (.slice Gy ZE.length Il : Value).ownBlock ∧ some k_ ≠ (.slice jY dH.length k3 : Value).ownBlock)))) (n := qW.length) (c := oD) ?_).2.2; exact (by refine rR ?_; exact (Kd.aT (fR (fR (tR rQ sN))) (fun _ h_ => h_.1)))); (case side2 => exact (Kd.bH rQ.1).2.1); (case side3 => refine (Kd.d9 (e := 52) (base := w.heap.size) (ok := fun k_ => (some k_ ≠ (.slice (some kI) jX.length jV : Value).ownBlock ∧ (some k_ ≠ (v182 : Value).ownBlock ∧ (some k_ ≠ (.slice oH qW.length oD : Value).ownBlock ∧ (some k_ ≠ (.slice Gy ZE.length Il : Value).ownBlock ∧ (some k_ ≠ (.slice Nt Cw.length Qx : Value).ownBlock ∧ (some k_ ≠ (.slice jY dH.length k3 : Value).ownBlock ∧ (some k_ ≠ (.slice qH eZ.length qM : Value).ownBlock ∧ (k_ ≠ bC ∧ (k_ ≠ jO ∧ k_ ≠ nS)))))))))) (n := xI.length) (c := xQ) ?_).2.2; exact (by refine rN ?_; exact (Kd.aJ (fN (fN (Kd.aJ oC.1 (fun k_ hk => (⟨hk, hk.2.2.2.2.2.2.2.2.2⟩ : _ ∧ k_ ≠ nS))))) (fun _ h_ => h_.1)))); (case side4 => exact (Kd.d9 oC.1).2.1); rintro e aUL ⟨rfl, hb⟩; replace aH := am (Kd.jA (by refine rR ?_; exact (Kd.aT (fR (fR (tR aH sN))) (fun _ h_ => h_.1))) hb); replace aD := am (Kd.iI (by refine rN ?_; exact (Kd.aJ (fN (fN (Kd.aJ aD.1 (fun k_ hk => (⟨hk, hk.2.2.2.2.2.2.2.2.2⟩ : _ ∧ k_ ≠ nS))))) (fun _ h_ => h_.1))) hb); replace lM := am (Kd.jA (by refine rR ?_; exact (Kd.aT (fR (fR (tR lM sN))) (fun _ h_ => h_.1))) hb); replace oK := am (Kd.jA (by refine rR ?_; exact (Kd.aT (fR (fR (tR oK sN))) (fun _ h_ => h_.1))) hb); replace rQ := am (Kd.jA (by refine rR ?_; exact (Kd.aT (fR (fR (tR rQ sN))) (fun _ h_ => h_.1))) hb); replace oC := am (Kd.iI (by refine rN ?_; exact (Kd.aJ (fN (fN (Kd.aJ oC.1 (fun k_ hk => (⟨hk, hk.2.2.2.2.2.2.2.2.2⟩ : _ ∧ k_ ≠ nS))))) (fun _ h_ => h_.1))) hb); replace KF := am (Kd.jA (by refine rR ?_; exact (Kd.aT (fR (fR (tR KF sN))) (fun _ h_ => h_.1))) hb); replace KG := am (Kd.iI (by refine rN ?_; exact (Kd.aJ (fN (fN (Kd.aJ KG.1 (fun k_ hk => (⟨hk, hk.2.2.2.2.2.2.2.2.2⟩ : _ ∧ k_ ≠ nS))))) (fun _ h_ => h_.1))) hb); replace aV := am (aX (g := bC) (o := .cells #[.slice jY dH.length k3, .slice qH eZ.length qM] 26 (0, 0)) (qF aV xO) hb); replace mK := am (aX (g := jO) (o := .cells #[.slice oH qW.length oD, .slice xX xI.length xQ] 26 (0, 0)) (qF mK rJ) hb); replace sN := am (aX (g := nS) (o := .cells #[.slice Gy ZE.length Il, .slice Nt Cw.length Qx] 26 (0, 0)) (qP sN) hb); replace HB := bS Gf hb; clear hb; have aRK := nZ1 zB xO; have aRL := cz2 sN; have aRM := cz2 aV))
      go_roundg k2
      case measure => have := HK1.out; have := HK2.out; omega
      case rel => exact ⟨(wrap64 (UA - 1)), (ZE), (Cw), (.slice Gy ZE.length Il), (.slice Nt Cw.length Qx), dU, H', ⟨by have := HK1.out; have := HK2.out; omega⟩, ⟨mR KF aV⟩, ⟨by refine rN ?_; exact Kd.aJ (fN (fN (Kd.aJ KG.1 (fun k_ hk => (⟨hk, hk.2.2.2.2.2.2.2.1⟩ : _ ∧ k_ ≠ bC))))) (fun _ hk => ⟨hk.1.2.2.2.2.1, hk.1.2.2.2.2.2.2.2.1⟩)⟩, ⟨qP aV⟩, ⟨Gf⟩⟩
     ·go_ret
      exact ⟨eR, NW⟩
def dE.Pure : Prop := ∀ (l0 : List Int), l0.length ≤ maxLen → l0.length * 1 ≤ 140737488351232 → (∀ x ∈ l0, (Lit.int .u8 x).wf = true) → ∃ k, dE.f k l0 = some true
theorem dE.walk (P : dE.Pure) (a0 : Option Addr) (len0 cap0 : Nat) (z0 : List Int) (w : World) (w0 : (a0 = none ∧ len0 = 0 ∧ cap0 = 0 ∧ z0 = []) ∨ ∃ x, a0 = some x ∧ len0 ≤ cap0 ∧ cap0 ≤ maxLen ∧ z0.length = cap0 ∧ (∀ i, i < z0.length → w.cell? (x.add i) = some (.int .u8 (z0.getD i 0))) ∧ ∀ n ∈ z0, (Lit.int .u8 n).wf = true) (y0 : len0 * 1 ≤ 140737488351232) :
  Calls Tryz.prog 3 #[.slice a0 len0 cap0] w fun e w' => e = .returned (.bool true) ∧ Below w.heap.size w w' := by
 obtain ⟨l0, rfl, tM, hm0, hw0, yO⟩ := kC.qf w0
 obtain ⟨k, h⟩ := P l0 hm0 y0 hw0
 refine (dE.calls k _ _ l0 true w (Kd.xE (d := (0 : Int)) (h1 := fun _ => rfl) tM) yO h).mono ?_
 rintro e w' ⟨rfl, hd⟩
 exact ⟨rfl, hd⟩
end Go.Proofs.YtaofjgnhapnndaaGreat.Q
namespace Go.Proofs.YtaofjgnhapnndaaGreat.Q
open Go.RowKit Go.Proofs.YtaofjgnhapnndaaGreatW.PrintWords Go.Proofs.YtaofjgnhapnndaaGreatW.PrintLast Go.Proofs.YtaofjgnhapnndaaGreatW.PrintMore
set_option linter.unusedVariables false
set_option linter.unusedSimpArgs false
theorem TM {α : Type} (f : α → Nat) : ∀ {l : List α} {x : α}, x ∈ l → f x ≤ (l.map f).sum
  | a :: l, x, h => by
    rw [List.map_cons, List.sum_cons]
    rcases List.mem_cons.1 h with rfl | h
    · omega
    · have := TM f h; omega
def Bz (ts : List ByteArray) (bs : List IB) : Prop := ts.length + kJ bs ≤ 8388608
theorem PO {bs : List IB} {b : IB} (h : b ∈ bs) : 1 + b.f1.length + b.f2.length ≤ kJ bs := by
 unfold kJ; exact TM (fun b => 1 + b.f1.length + b.f2.length) h
theorem PN : ∀ bs : List IB, bs.length ≤ kJ bs
  | [] => by simp [kJ]
  | b :: r => by have := PN r; rw [vR, List.length_cons]; omega
theorem BR (a b : List IB) : kJ (a ++ b) = kJ a + kJ b := by simp [kJ]
theorem Bz.ts {ts : List ByteArray} {bs : List IB} (h : Bz ts bs) : ts.length ≤ 8388608 := by unfold Bz at h; omega
theorem Bz.bs {ts : List ByteArray} {bs : List IB} (h : Bz ts bs) : bs.length ≤ 8388608 := by have := PN bs; unfold Bz at h; omega
theorem Bz.mem {ts : List ByteArray} {bs : List IB} (h : Bz ts bs) {b : IB} (hb : b ∈ bs) : b.f1.length ≤ 8388608 ∧ b.f2.length ≤ 8388608 := by have := PO hb; unfold Bz at h; omega
theorem Bz.bok {ts : List ByteArray} {bs : List IB} (h : Bz ts bs) : Bok bs := fun b hb => by have := h.mem hb; omega
theorem AP {bs : List IB} {i : Nat} (h : i < bs.length) : gB bs i ∈ bs := by unfold gB; rw [getD_lt bs _ h]; exact List.getElem_mem h
theorem Bz.at_ {ts : List ByteArray} {bs : List IB} (h : Bz ts bs) {i : Nat} (hi : i < bs.length) : (gB bs i).f1.length ≤ 8388608 ∧ (gB bs i).f2.length ≤ 8388608 := h.mem (AP hi)
theorem zL (l : List ByteArray) (h : l.length ≤ 8388608) : Ev (fun _ => jE.f l) l := by
 unfold jE.f
 exact Ev.bind (Ev.ret rfl) (Ev.pos (by simp only [List.length_nil]; omega) (Ev.ret rfl))
theorem EU (l : List ByteArray) (h : l.length ≤ 8388608) : Ev (fun _ => dW.f l) l := by
 unfold dW.f
 exact Ev.pos (by omega) (Ev.ret rfl)
theorem Ka {bs : List IB} {i : Nat} (h : i < bs.length) : bs.take i ++ [gB bs i] = bs.take (i + 1) := by
 rw [List.take_succ_eq_append_getElem h]; unfold gB; rw [getD_lt bs _ h]
theorem nJ (ts : List ByteArray) (bs : List IB) (h : Bz ts bs) : Ev (fun k => dP.f k ts bs) (ts, bs) := by
 unfold dP.f
 have hl := h.bs
 have go : ∀ (d i : Nat), bs.length - i = d → i ≤ bs.length → Ev (fun k => dP.l0 k (i : Int) ts bs ts (bs.take i)) (ts, bs) := by
  intro d
  induction d with
  | zero =>
   intro i hd hi
   refine Ev.step (fun k => dP.l0.eq_2 _ _ _ _ _ k) (Ev.neg (by omega) (Ev.ret ?_))
   rw [List.take_of_length_le (by omega)]
  | succ d ih =>
   intro i hd hi
   have hlt : i < bs.length := by omega
   refine Ev.step (fun k => dP.l0.eq_2 _ _ _ _ _ k) (Ev.pos (by omega) (Ev.pos (by omega) ?_))
   rw [iV, jR hlt (by omega)]
   refine Ev.bind (zL _ (h.at_ hlt).1) (Ev.bind (zL _ (h.at_ hlt).2) (Ev.pos (by rw [List.length_take]; omega) ?_))
   have := ih (i + 1) (by omega) (by omega)
   rw [← Ka hlt] at this
   exact this
 exact Ev.bind (zL ts h.ts) (go bs.length 0 (by omega) (by omega))
theorem tK (ts : List ByteArray) (bs : List IB) (h : Bz ts bs) : Ev (fun k => dM.f k ts bs) (ts, bs) := by
 unfold dM.f
 have hl := h.bs
 have go : ∀ (d i : Nat), bs.length - i = d → i ≤ bs.length → Ev (fun k => dM.l0 k bs (bs.length : Int) (i : Int) ts (bs.take i)) (ts, bs) := by
  intro d
  induction d with
  | zero =>
   intro i hd hi
   refine Ev.step (fun k => dM.l0.eq_2 _ _ _ _ _ k) (Ev.neg (by omega) (Ev.ret ?_))
   rw [List.take_of_length_le (by omega)]
  | succ d ih =>
   intro i hd hi
   have hlt : i < bs.length := by omega
   refine Ev.step (fun k => dM.l0.eq_2 _ _ _ _ _ k) (Ev.pos (by omega) (Ev.pos (by omega) (Ev.pos (by omega) ?_)))
   rw [iV, jR hlt (by omega)]
   refine Ev.bind (EU _ (h.at_ hlt).1) (Ev.bind (EU _ (h.at_ hlt).2) (Ev.pos (by rw [List.length_take]; omega) ?_))
   have := ih (i + 1) (by omega) (by omega)
   rw [← Ka hlt] at this
   exact this
 exact Ev.bind (EU ts h.ts) (go bs.length 0 (by omega) (by omega))
theorem Bz.nil : Bz [] [] := by simp [Bz, kJ]
theorem yC {ts : List ByteArray} {bs : List IB} (h : ts.length + kJ bs ≤ 1048576) : Bz ts bs := by unfold Bz; omega
def atI (bs : List IB) (n : ByteArray) : Int := idxI (fun s => s.toList == n.toList) bs 0
theorem ku {bs : List IB} {n : ByteArray} (h : ¬ atI bs n < 0) : ∃ a : Nat, atI bs n = (a : Int) ∧ a < bs.length ∧ (gB bs a).f0.toList = n.toList := by
 unfold atI idxI at h ⊢
 cases hf : BA (fun i => (gB bs i).f0.toList == n.toList) bs.length 0 with
 | none => rw [hf] at h; simp at h
 | some a =>
  obtain ⟨_, h2, h3⟩ := MV hf
  exact ⟨a, rfl, h2, beq_iff_eq.mp h3⟩
theorem yJ (ts : List ByteArray) (bs : List IB) (n : ByteArray) (hl : bs.length ≤ 9223372036854775807) : Ev (fun k => iM.f k ts bs n) (atI bs n) := by
 unfold iM.f atI
 refine Ev.loop (f := fun k i => iM.l0 k n (i : Int) ts bs) (val := fun i => idxI (fun s => s.toList == n.toList) bs i) bs.length ?_ ?_ 0 (by omega)
 ·simp only [Bl]
  exact Ev.step (fun k => iM.l0.eq_2 n _ ts bs k) (Ev.neg (by omega) (Ev.ret rfl))
 intro i hi H
 simp only [VR (fun s => s.toList == n.toList) hi]
 refine Ev.step (fun k => iM.l0.eq_2 n _ ts bs k) (Ev.pos (by omega) (Ev.pos (by omega) ?_))
 rw [iV, jR hi hl]
 refine Ev.prop (fun h => Ev.ret (by rw [if_pos (beq_iff_eq.mpr h)])) (fun h => Ev.sub H (by rw [if_neg (fun e => h (beq_iff_eq.mp e))]))
def wQ (ts : List ByteArray) (bs : List IB) (n : ByteArray) (needs : List ByteArray) : List ByteArray × List IB × Int :=
  if q8 ts bs = true then
    (if wW n = true then (if mM needs ts = true then (if 0 ≤ atI bs n then (ts, bs, 3) else if 5 ≤ bs.length then (ts, bs, 4) else (ts, insB bs ⟨n, [], needs⟩, 0)) else (ts, bs, 2)) else (ts, bs, 2))
  else ([], [], 1)
theorem Fq (l : List IB) (x : IB) : kJ (insB l x) = kJ l + (1 + x.f1.length + x.f2.length) := by
 unfold insB
 rw [BR, vR]
 have : kJ l = kJ (l.take (insK l x.f0)) + kJ (l.drop (insK l x.f0)) := by rw [← BR, List.take_append_drop]
 omega
theorem Rh {ts : List ByteArray} {bs : List IB} (n : ByteArray) {needs : List ByteArray} (h : ts.length + kJ bs ≤ 1048576) (hn : needs.length ≤ 1048576) : Bz (wQ ts bs n needs).1 (wQ ts bs n needs).2.1 := by
 have hi := Fq bs ⟨n, [], needs⟩
 unfold wQ
 repeat' split
 all_goals first | exact yC h | exact Bz.nil | (unfold Bz; dsimp only; rw [hi]; simp only [List.length_nil]; omega)
theorem Uc (p : IB → Bool) : ∀ (L : List IB), ∀ a ∈ L.take (L.takeWhile p).length, p a = true
  | [], a, h => by simp at h
  | b :: L, a, h => by
    cases hp : p b with
    | false => rw [List.takeWhile_cons, hp] at h; simp at h
    | true =>
      rw [List.takeWhile_cons, hp, if_pos rfl, List.length_cons, List.take_succ_cons] at h
      rcases List.mem_cons.1 h with rfl | h
      · exact hp
      · exact Uc p L a h
theorem Ke (p : IB → Bool) : ∀ (L : List IB) (h : (L.takeWhile p).length < L.length), p L[(L.takeWhile p).length] = false
  | [], h => by simp at h
  | b :: L, h => by
    cases hp : p b with
    | false =>
      have e : (b :: L).takeWhile p = [] := by rw [List.takeWhile_cons, hp]; rfl
      simp only [e, List.length_nil, List.getElem_cons_zero, hp]
    | true =>
      have e : (b :: L).takeWhile p = b :: L.takeWhile p := by rw [List.takeWhile_cons, hp]; rfl
      simp only [e, List.length_cons, List.getElem_cons_succ]
      rw [e, List.length_cons, List.length_cons] at h
      exact Ke p L (by omega)
theorem ES {a b c : List UInt8} (h1 : Op.bytesLess a b = true) (h2 : Op.bytesLess b c = true) : Op.bytesLess a c = true := by
 rw [bytesLess_eq, decide_eq_true_eq] at *
 exact List.lt_trans h1 h2
theorem Ig {a b : List UInt8} (h1 : Op.bytesLess a b = false) (hne : a ≠ b) : Op.bytesLess b a = true := by
 rw [bytesLess_eq, decide_eq_false_iff_not] at h1
 rw [bytesLess_eq, decide_eq_true_eq]
 by_cases h : b < a
 ·exact h
 exact (hne (List.le_antisymm (List.not_lt.1 h) (List.not_lt.1 h1))).elim
theorem rY {ts : List ByteArray} {bs : List IB} (h : q8 ts bs = true) : Asc bs := by
 unfold q8 at h
 simp only [Bool.and_eq_true, decide_eq_true_eq] at h
 have hall := (uA _ _ _).1 h.2.2
 have hstep : ∀ i (hi : i + 1 < bs.length), Op.bytesLess (bs[i]'(by omega)).f0.toList bs[i + 1].f0.toList = true := by
  intro i hi
  have q := hall (i + 1) (by omega) hi
  simp only [Bool.and_eq_true] at q
  have q2 := q.1
  unfold uL at q2
  simp only [Bool.and_eq_true, Bool.or_eq_true, decide_eq_true_eq] at q2
  have q3 := q2.2.1
  rcases q3 with q3 | q3
  ·omega
  ·unfold ltB gB at q3
   rw [getD_lt bs _ (show i + 1 - 1 < bs.length by omega), getD_lt bs _ hi] at q3
   exact q3
 unfold Asc
 rw [List.pairwise_iff_getElem]
 have go : ∀ (d i : Nat) (hd : i + d + 1 < bs.length), Op.bytesLess (bs[i]'(by omega)).f0.toList (bs[i + d + 1]'hd).f0.toList = true := by
  intro d
  induction d with
  | zero => intro i hd; exact hstep i hd
  | succ d ih => intro i hd; exact ES (ih i (by omega)) (hstep (i + d + 1) (by omega))
 intro i j hi hj hij
 have := go (j - i - 1) i (by omega)
 simpa only [show i + (j - i - 1) + 1 = j by omega] using this
theorem X9 {bs : List IB} {n : ByteArray} (h : ¬ 0 ≤ atI bs n) : ∀ b ∈ bs, b.f0.toList ≠ n.toList := by
 intro b hb e
 unfold atI idxI at h
 cases hf : BA (fun i => (fun s => s.toList == n.toList) (gB bs i).f0) bs.length 0 with
 | some i => rw [hf] at h; simp at h
 | none =>
  unfold BA at hf
  rw [List.find?_eq_none] at hf
  obtain ⟨i, hi, rfl⟩ := List.getElem_of_mem hb
  have q := hf i (by rw [List.mem_range'_1]; omega)
  unfold gB at q
  rw [getD_lt bs _ hi] at q
  simp [e] at q
theorem Bq {bs : List IB} {x : IB} (ha : Asc bs) (hn : ∀ b ∈ bs, b.f0.toList ≠ x.f0.toList) : Asc (insB bs x) := by
 have hpw := List.pairwise_iff_getElem.1 ha
 have hdrop : ∀ b ∈ bs.drop (insK bs x.f0), Op.bytesLess x.f0.toList b.f0.toList = true := by
  intro b hb
  obtain ⟨j, hj, rfl⟩ := List.getElem_of_mem hb
  rw [List.length_drop] at hj
  rw [List.getElem_drop]
  have hk : insK bs x.f0 < bs.length := by omega
  have hs : Op.bytesLess (bs[insK bs x.f0]'hk).f0.toList x.f0.toList = false := Ke _ bs hk
  have h1 := Ig hs (hn _ (List.getElem_mem hk))
  by_cases h0 : j = 0
  ·subst h0; exact h1
  ·exact ES h1 (hpw _ _ hk (by omega) (by omega))
 have htake : ∀ a ∈ bs.take (insK bs x.f0), Op.bytesLess a.f0.toList x.f0.toList = true := fun a h => Uc (fun b => Op.bytesLess b.f0.toList x.f0.toList) bs a h
 unfold insB Asc
 rw [List.pairwise_append]
 refine ⟨List.Pairwise.sublist (List.take_sublist _ _) ha, List.pairwise_cons.2 ⟨hdrop, List.Pairwise.sublist (List.drop_sublist _ _) ha⟩, fun a h1 b h2 => ?_⟩
 rcases List.mem_cons.1 h2 with rfl | h2
 ·exact htake a h1
 exact ES (htake a h1) (hdrop b h2)
def kfrom (bs : List IB) (n : ByteArray) (i : Nat) : Nat := i + ((bs.drop i).takeWhile fun b => Op.bytesLess b.f0.toList n.toList).length
theorem Ma (bs : List IB) (n : ByteArray) : kfrom bs n bs.length = bs.length := by simp [kfrom]
theorem Fs {bs : List IB} {n : ByteArray} {i : Nat} (hi : i < bs.length) : kfrom bs n i = if Op.bytesLess (gB bs i).f0.toList n.toList = true then kfrom bs n (i + 1) else i := by
 have e : gB bs i = bs[i] := by unfold gB; rw [getD_lt bs _ hi]
 unfold kfrom
 rw [List.drop_eq_getElem_cons hi, List.takeWhile_cons, e]
 cases hp : Op.bytesLess bs[i].f0.toList n.toList with
 | true => rw [if_pos rfl, if_pos rfl, List.length_cons]; omega
 | false => rw [if_neg (by simp), if_neg (by simp), List.length_nil]; omega
theorem Fb (ts : List ByteArray) (bs : List IB) (n : ByteArray) (needs : List ByteArray) (h : ts.length + kJ bs ≤ 1048576) (hn : needs.length ≤ 1048576) : Ev (fun k => dC.l0 k n needs 0 ts bs) (ts, insB bs ⟨n, [], needs⟩, 0) := by
 have hz := yC h
 have hl := hz.bs
 have hw := Fq bs ⟨n, [], needs⟩
 have hcopy : Ev (fun k => dP.f k ts (insB bs ⟨n, [], needs⟩)) (ts, insB bs ⟨n, [], needs⟩) := nJ ts _ (by unfold Bz; rw [hw]; simp only [List.length_nil]; omega)
 have hend : ∀ i, i ≤ bs.length → kfrom bs n i = i → kfrom bs n 0 = i → bs.take i ++ [(⟨n, [], needs⟩ : IB)] ++ bs.drop i = insB bs ⟨n, [], needs⟩ := by
  intro i hi _ h0
  have e : insK bs n = i := by rw [← h0]; unfold kfrom insK; rw [List.drop_zero, Nat.zero_add]
  unfold insB
  rw [show insK bs (⟨n, [], needs⟩ : IB).f0 = i from e, List.append_assoc]; rfl
 have go : ∀ (d i : Nat), bs.length - i = d → i ≤ bs.length → kfrom bs n i = kfrom bs n 0 → Ev (fun k => dC.l0 k n needs (i : Int) ts bs) (ts, insB bs ⟨n, [], needs⟩, 0) := by
  intro d
  induction d with
  | zero =>
   intro i hd hi hk
   have hie : i = bs.length := by omega
   have hke : kfrom bs n i = i := by rw [hie]; exact Ma bs n
   have he := hend i hi hke (by rw [← hk]; exact hke)
   refine Ev.step (fun k => dC.l0.eq_2 _ _ _ _ _ k) (Ev.neg (by omega) ?_)
   refine Ev.bind (Ev.ret rfl) (Ev.pos (by omega) (Ev.pos (by omega) (Ev.bind (Ev.ret rfl) ?_)))
   rw [Int.toNat_natCast]
   refine Ev.pos (by simp only [List.length_nil, List.length_take]; omega) (Ev.bind (Ev.ret rfl) (Ev.bind (zL needs (by omega)) ?_))
   refine Ev.pos (by simp only [List.nil_append, List.length_take]; omega) (Ev.bind (Ev.ret rfl) (Ev.bind (Ev.ret rfl) (Ev.pos (by simp only [List.nil_append, List.length_append, List.length_take, List.length_drop, List.length_cons, List.length_nil]; omega) ?_)))
   rw [List.nil_append, he]
   exact Ev.bind hcopy (Ev.ret rfl)
  | succ d ih =>
   intro i hd hi hk
   have hlt : i < bs.length := by omega
   have hs := Fs (n := n) hlt
   refine Ev.step (fun k => dC.l0.eq_2 _ _ _ _ _ k) (Ev.pos (by omega) (Ev.pos (by omega) ?_))
   rw [iV, jR hlt (by omega)]
   refine Ev.prop (fun hp => ?_) (fun hp => ?_)
   ·rw [if_pos hp] at hs
    exact ih (i + 1) (by omega) (by omega) (by rw [← hs]; exact hk)
   ·rw [if_neg hp] at hs
    have he := hend i hi hs (by rw [← hk]; exact hs)
    refine Ev.bind (Ev.ret rfl) (Ev.pos (by omega) (Ev.bind (Ev.ret rfl) ?_))
    rw [Int.toNat_natCast]
    refine Ev.pos (by simp only [List.length_nil, List.length_take]; omega) (Ev.bind (Ev.ret rfl) (Ev.bind (zL needs (by omega)) ?_))
    refine Ev.pos (by simp only [List.nil_append, List.length_take]; omega) (Ev.bind (Ev.ret rfl) (Ev.bind (Ev.ret rfl) (Ev.pos (by simp only [List.nil_append, List.length_append, List.length_take, List.length_drop, List.length_cons, List.length_nil]; omega) ?_)))
    rw [List.nil_append, he]
    exact Ev.bind hcopy (Ev.ret rfl)
 exact go bs.length 0 (by omega) (by omega) rfl
theorem Av (ts : List ByteArray) (bs : List IB) (n : ByteArray) (needs : List ByteArray) (b : Bool) (h : ts.length + kJ bs ≤ 1048576) (hn : needs.length ≤ 1048576) : Ev (fun k => dC.j0 k n needs b ts bs ts bs) (if b = true then (ts, bs, 2) else if 0 ≤ atI bs n then (ts, bs, 3) else if 5 ≤ bs.length then (ts, bs, 4) else (ts, insB bs ⟨n, [], needs⟩, 0)) := by
 have hz := yC h
 have hl := hz.bs
 refine Ev.step (fun k => dC.j0.eq_2 _ _ _ _ _ _ _ k) (Ev.test b (fun hb => Ev.ret (by rw [if_pos hb])) (fun hb => ?_))
 rw [if_neg (by simp [hb])]
 refine Ev.bind (yJ ts bs n (by omega)) (Ev.prop (fun hc => Ev.ret (by rw [if_pos hc])) (fun hc => ?_))
 rw [if_neg hc]
 refine Ev.prop (fun h5 => Ev.ret (by rw [if_pos (by omega)])) (fun h5 => ?_)
 rw [if_neg (by omega)]
 exact Fb ts bs n needs h hn
theorem CW (ts : List ByteArray) (bs : List IB) (n : ByteArray) (needs : List ByteArray) (h : ts.length + kJ bs ≤ 1048576) (hn : needs.length ≤ 1048576) : Ev (fun k => dC.f k ts bs n needs) (wQ ts bs n needs) := by
 have hz := yC h
 have hl := hz.bs
 have ht := hz.ts
 unfold dC.f wQ
 refine Ev.bind (pM ts bs (by omega) (by omega) hz.bok) (Ev.test _ (fun hb => ?_) (fun hb => Ev.ret (by simp [hb])))
 rw [if_pos hb]
 refine Ev.bind (nJ ts bs hz) (Ev.bind (wJ n) ?_)
 dsimp only
 refine Ev.test _ (fun hnm => ?_) (fun hnm => ?_)
 ·rw [if_pos hnm]
  refine Ev.bind (sF needs ts (by omega) (by omega)) ?_
  refine Ev.sub (Av ts bs n needs _ h hn) ?_
  cases mM needs ts <;> rfl
 exact Ev.sub (Av ts bs n needs true h hn) (by simp [hnm])
theorem Ev.posI {α : Type} {c : Prop} {inst : Decidable c} {a b : Nat → Option α} {r : α} (h : c) (H : Ev a r) : Ev (fun k => @ite _ c inst (a k) (b k)) r := Ev.pos h H
theorem LJ (ts : List ByteArray) (bs : List IB) (n : ByteArray) (needs : List ByteArray) (h : ts.length + kJ bs ≤ 1048576) (hn : needs.length ≤ 1048576) : Ev (fun k => p8.f k ts bs n needs) (wQ ts bs n needs) := by
 have hz := yC h
 have hl := hz.bs
 have ht := hz.ts
 unfold p8.f wQ
 refine Ev.bind (kW ts bs (by omega) (by omega) hz.bok) (Ev.test _ (fun hb => ?_) (fun hb => Ev.ret (by simp [hb])))
 rw [if_pos hb]
 have h5 := ET hb
 refine Ev.bind (tK ts bs hz) (Ev.bind (Jw n) ?_)
 dsimp only
 refine Ev.test _ (fun hnm => ?_) (fun hnm => Ev.ret (by simp [hnm]))
 rw [if_pos hnm]
 refine Ev.bind (zI needs ts (by omega) (by omega)) (Ev.test _ (fun hq => ?_) (fun hq => Ev.ret (by simp [hq])))
 rw [if_pos hq]
 refine Ev.bind (Ev.ret (s := atI bs n) rfl) (Ev.prop (fun hc => Ev.ret (by rw [if_pos hc])) (fun hc => ?_))
 rw [if_neg hc]
 refine Ev.prop (fun h6 => Ev.ret (by rw [if_pos (by omega)])) (fun h6 => ?_)
 rw [if_neg (by omega)]
 refine Ev.bind (EU needs (by omega)) (Ev.posI ⟨by omega, Bq (rY hb) (X9 hc)⟩ (Ev.ret rfl))
def insL (a : ByteArray) : List ByteArray → List ByteArray
  | [] => [a]
  | x :: t => if Op.bytesLess x.toList a.toList = true then x :: insL a t else if x.toList == a.toList then x :: t else a :: x :: t
def AscS (l : List ByteArray) : Prop := l.Pairwise fun a b => Op.bytesLess a.toList b.toList = true
def pE (has things : List ByteArray) : List ByteArray := things.foldl (fun h a => insL a h) has
theorem VT (a : ByteArray) : ∀ l : List ByteArray, insF a l = true → insL a l = l
  | [], h => by cases h
  | x :: t, h => by
    unfold insF at h
    unfold insL
    by_cases hc : Op.bytesLess x.toList a.toList = true
    · rw [if_pos hc] at h ⊢
      rw [VT a t h]
    · rw [if_neg hc] at h ⊢
      rw [if_pos h]
theorem TK (a s : ByteArray) : ∀ l : List ByteArray, s ∈ insL a l ↔ s = a ∨ s ∈ l
  | [] => by simp [insL]
  | x :: t => by
    unfold insL
    by_cases hc : Op.bytesLess x.toList a.toList = true
    · rw [if_pos hc, List.mem_cons, TK a s t, List.mem_cons]
      constructor
      · rintro (h | h | h) <;> simp [h]
      · rintro (h | h | h) <;> simp [h]
    · rw [if_neg hc]
      by_cases he : (x.toList == a.toList) = true
      · rw [if_pos he]
        have e : x = a := toList_inj.1 (by simpa using he)
        subst e
        simp
      · rw [if_neg he, List.mem_cons]
theorem Bt (a : ByteArray) : ∀ l : List ByteArray, (insL a l).length ≤ l.length + 1
  | [] => by simp [insL]
  | x :: t => by
    unfold insL
    have := Bt a t
    split
    · simp only [List.length_cons]; omega
    · split <;> simp only [List.length_cons] <;> omega
theorem Br (a : ByteArray) : ∀ l : List ByteArray, AscS l → AscS (insL a l)
  | [], _ => List.pairwise_singleton _ _
  | x :: t, h => by
    obtain ⟨h1, h2⟩ := List.pairwise_cons.1 h
    unfold insL
    by_cases hc : Op.bytesLess x.toList a.toList = true
    · rw [if_pos hc]
      refine List.pairwise_cons.2 ⟨fun s hs => ?_, Br a t h2⟩
      rcases (TK a s t).1 hs with rfl | hs
      · exact hc
      · exact h1 s hs
    · rw [if_neg hc]
      by_cases he : (x.toList == a.toList) = true
      · rw [if_pos he]; exact h
      · rw [if_neg he]
        have hxa : Op.bytesLess a.toList x.toList = true := Ig (by simpa using hc) (by simpa using he)
        refine List.pairwise_cons.2 ⟨fun s hs => ?_, h⟩
        rcases List.mem_cons.1 hs with rfl | hs
        · exact hxa
        · exact ES hxa (h1 s hs)
theorem G6 (s : ByteArray) : ∀ (things has : List ByteArray), s ∈ pE has things ↔ s ∈ has ∨ s ∈ things
  | [], has => by simp [pE]
  | a :: t, has => by
    show s ∈ pE (insL a has) t ↔ _
    rw [G6 s t, TK, List.mem_cons]
    constructor
    · rintro ((h | h) | h) <;> simp [h]
    · rintro (h | h | h) <;> simp [h]
theorem LQ : ∀ (things has : List ByteArray), AscS has → AscS (pE has things)
  | [], _, h => h
  | a :: t, has, h => LQ t (insL a has) (Br a has h)
theorem LU : ∀ (things has : List ByteArray), (pE has things).length ≤ has.length + things.length
  | [], has => by simp [pE]
  | a :: t, has => by
    have h1 := LU t (insL a has)
    have h2 := Bt a has
    show (pE (insL a has) t).length ≤ _
    simp only [List.length_cons]; omega
theorem Bo (has l : List ByteArray) (a : ByteArray) : pE has (l ++ [a]) = insL a (pE has l) := by
 unfold pE; rw [List.foldl_append]; rfl
theorem Af : ∀ (a b : List ByteArray), AscS a → AscS b → (∀ s, s ∈ a ↔ s ∈ b) → a = b
 | [], [], _, _, _ => rfl
 | [], y :: b, _, _, h => absurd ((h y).2 (List.mem_cons_self ..)) (by simp)
 | x :: a, [], _, _, h => absurd ((h x).1 (List.mem_cons_self ..)) (by simp)
 | x :: a, y :: b, ha, hb, h => by
  obtain ⟨a1, a2⟩ := List.pairwise_cons.1 ha
  obtain ⟨b1, b2⟩ := List.pairwise_cons.1 hb
  have irr : ∀ z : ByteArray, ¬ Op.bytesLess z.toList z.toList = true := fun z hz => by
   rw [bytesLess_eq, decide_eq_true_eq] at hz; exact List.lt_irrefl _ hz
  have e : x = y := by
   rcases List.mem_cons.1 ((h x).1 (List.mem_cons_self ..)) with e | e
   ·exact e
   ·rcases List.mem_cons.1 ((h y).2 (List.mem_cons_self ..)) with e2 | e2
    ·exact e2.symm
    ·exact absurd (ES (a1 y e2) (b1 x e)) (irr x)
  subst e
  rw [Af a b a2 b2 fun s => ?_]
  constructor
  ·intro hs
   rcases List.mem_cons.1 ((h s).1 (List.mem_cons_of_mem _ hs)) with e | e
   ·subst e; exact absurd (a1 s hs) (irr s)
   ·exact e
  ·intro hs
   rcases List.mem_cons.1 ((h s).2 (List.mem_cons_of_mem _ hs)) with e | e
   ·subst e; exact absurd (b1 s hs) (irr s)
   ·exact e
theorem OV (s : ByteArray) : bl s = s.toList := (ByteArray.toList_eq s).symm
theorem Ju {s : ByteArray} {l : List (List UInt8)} : s ∈ l.map mkB ↔ bl s ∈ l := by
 rw [List.mem_map]
 constructor
 ·rintro ⟨x, hx, rfl⟩; rw [Q4]; exact hx
 intro h; exact ⟨bl s, h, TP s⟩
theorem qd {x : List UInt8} {l : List ByteArray} : x ∈ l.map bl ↔ mkB x ∈ l := by
 rw [List.mem_map]
 constructor
 ·rintro ⟨s, hs, rfl⟩; rw [TP]; exact hs
 intro h; exact ⟨mkB x, h, Q4 x⟩
theorem Mv (s : ByteArray) (xs : List ByteArray) : s ∈ BG xs ↔ s ∈ xs := by
 unfold BG
 rw [Ju, List.mem_mergeSort, qd, TP]
theorem Mt (xs : List ByteArray) : (BG xs).Pairwise fun a b => ¬ bl b < bl a := by
 unfold BG
 rw [List.pairwise_map]
 refine (List.pairwise_mergeSort (le := fun x y : List UInt8 => decide (x ≤ y)) ?_ ?_ (xs.map bl)).imp fun {a b} h => ?_
 ·intro a b c h1 h2
  rw [decide_eq_true_eq] at *
  exact List.le_trans h1 h2
 ·intro a b
  rw [Bool.or_eq_true, decide_eq_true_eq, decide_eq_true_eq]
  exact List.le_total a b
 rw [Q4, Q4]
 exact List.not_lt.2 (by simpa using h)
theorem Lj (s : ByteArray) (xs : List ByteArray) : s ∈ tQ xs ↔ s ∈ xs := by
 unfold tQ
 rw [Ju]
 unfold Lib.compact Lib.compactUpTo
 simp only [List.mem_map, List.mem_filter, List.mem_range, List.length_map]
 constructor
 ·rintro ⟨j, ⟨hj, _⟩, e⟩
  rw [getElem!_pos _ j (by simpa using hj)] at e
  simp only [List.getElem_toArray, List.getElem_map] at e
  have : xs[j] = s := by rw [← TP s, ← e, TP]
  rw [← this]; exact List.getElem_mem hj
 intro hs
 obtain ⟨j, hj, rfl⟩ := List.getElem_of_mem hs
 have go : ∀ (n i : Nat), i ≤ n → (hi : i < xs.length) → xs[i] = xs[j] → ∃ a, (a < xs.length ∧ Lib.keeps (xs.map bl).toArray a = true) ∧ (xs.map bl).toArray[a]! = bl xs[j] := by
  intro n
  induction n with
  | zero =>
   intro i hn hi e
   have : i = 0 := by omega
   subst this
   exact ⟨0, ⟨hi, Lib.keeps_lt_one _ 0 (by omega)⟩, by rw [getElem!_pos _ 0 (by simpa using hi)]; simp [e]⟩
  | succ n ih =>
   intro i hn hi e
   by_cases hk : Lib.keeps (xs.map bl).toArray i = true
   ·exact ⟨i, ⟨hi, hk⟩, by rw [getElem!_pos _ i (by simpa using hi)]; simp [e]⟩
   ·unfold Lib.keeps at hk
    simp only [decide_eq_true_eq, not_or, Classical.not_not, ne_eq] at hk
    obtain ⟨h0, h1⟩ := hk
    rw [getElem!_pos _ i (by simpa using hi), getElem!_pos _ (i - 1) (by simp; omega)] at h1
    simp only [List.getElem_toArray, List.getElem_map] at h1
    have h2 : xs[i - 1]'(by omega) = xs[j] := by
     rw [← e, ← TP (xs[i - 1]'(by omega)), ← h1, TP]
    exact ih (i - 1) (by omega) (by omega) h2
 exact go j j (Nat.le_refl _) hj rfl
theorem Li {xs : List ByteArray} (h : xs.Pairwise fun a b => ¬ bl b < bl a) : AscS (tQ xs) := by
 have hpw := List.pairwise_iff_getElem.1 h
 unfold tQ AscS Lib.compact Lib.compactUpTo
 rw [List.pairwise_map, List.pairwise_map, List.pairwise_filter]
 simp only [List.length_map]
 refine List.Pairwise.imp_of_mem (R := fun a b => a < b) (fun {a b} ha hb hab _ hkb => ?_) List.pairwise_lt_range
 have ha := List.mem_range.1 ha
 have hb := List.mem_range.1 hb
 rw [← OV, ← OV, Q4, Q4, bytesLess_eq, decide_eq_true_eq]
 unfold Lib.keeps at hkb
 simp only [decide_eq_true_eq] at hkb
 rcases hkb with hkb | hkb
 ·omega
 rw [getElem!_pos _ a (by simpa using ha), getElem!_pos _ b (by simpa using hb)]
 rw [getElem!_pos _ b (by simpa using hb), getElem!_pos _ (b - 1) (by simp; omega)] at hkb
 simp only [List.getElem_toArray, List.getElem_map] at hkb ⊢
 have h1 : ¬ bl (xs[b - 1]'(by omega)) < bl (xs[a]'ha) := by
  by_cases e : a = b - 1
  ·subst e; exact List.lt_irrefl _
  ·exact hpw a (b - 1) ha (by omega) (by omega)
 have h2 : ¬ bl (xs[b]'hb) < bl (xs[b - 1]'(by omega)) := hpw (b - 1) b (by omega) hb (by omega)
 have h3 : bl (xs[b - 1]'(by omega)) < bl (xs[b]'hb) := by
  by_cases h4 : bl (xs[b - 1]'(by omega)) < bl (xs[b]'hb)
  ·exact h4
  ·exact absurd (List.le_antisymm (List.not_lt.1 h4) (List.not_lt.1 h2)) hkb
 exact List.lt_of_le_of_lt (List.not_lt.1 h1) h3
theorem Bp {has : List ByteArray} (h : AscS has) (things : List ByteArray) : tQ (BG (has ++ things)) = pE has things :=
  Af _ _ (Li (Mt _)) (LQ things has h) fun s => by rw [Lj, Mv, G6, List.mem_append]
theorem VV {l all : List ByteArray} (h : mM l all = true) : AscS l := by
 unfold mM at h
 have hall := (uA _ _ _).1 h
 have hstep : ∀ i (hi : i + 1 < l.length), Op.bytesLess (l[i]'(by omega)).toList l[i + 1].toList = true := by
  intro i hi
  have q := hall (i + 1) (by omega) hi
  unfold AR at q
  simp only [Bool.and_eq_true, Bool.or_eq_true, decide_eq_true_eq] at q
  rcases q.2 with q3 | q3
  ·omega
  ·unfold ltB gS at q3
   rw [getD_lt l _ (show i + 1 - 1 < l.length by omega), getD_lt l _ hi] at q3
   exact q3
 unfold AscS
 rw [List.pairwise_iff_getElem]
 have go : ∀ (d i : Nat) (hd : i + d + 1 < l.length), Op.bytesLess (l[i]'(by omega)).toList (l[i + d + 1]'hd).toList = true := by
  intro d
  induction d with
  | zero => intro i hd; exact hstep i hd
  | succ d ih => intro i hd; exact ES (ih i (by omega)) (hstep (i + d + 1) (by omega))
 intro i j hi hj hij
 have := go (j - i - 1) i (by omega)
 simpa only [show i + (j - i - 1) + 1 = j by omega] using this
theorem Qh {ts : List ByteArray} {bs : List IB} (h : q8 ts bs = true) {i : Nat} (hi : i < bs.length) : AscS (gB bs i).f1 := by
 unfold q8 at h
 simp only [Bool.and_eq_true, decide_eq_true_eq] at h
 have q := (uA _ _ _).1 h.2.2 i (by omega) hi
 unfold uL at q
 simp only [Bool.and_eq_true] at q
 exact VV q.1.2.2.2
def uO (ts : List ByteArray) (bs : List IB) (n : ByteArray) : List ByteArray × List IB × Int :=
  if q8 ts bs = true then (if atI bs n < 0 then (ts, bs, 3) else (ts, bs.eraseIdx (atI bs n).toNat, 0)) else ([], [], 1)
theorem AJ (bs : List IB) (n : ByteArray) (h : ¬ atI bs n < 0) : ∃ i : Nat, atI bs n = (i : Int) ∧ i < bs.length := by
 unfold atI idxI at h ⊢
 cases hf : BA (fun i => (fun s => s.toList == n.toList) (gB bs i).f0) bs.length 0 with
 | none => rw [hf] at h; simp at h
 | some i => exact ⟨i, by simp, (MV hf).2.1⟩
theorem DZ : ∀ (bs : List IB) (i : Nat), kJ (bs.eraseIdx i) ≤ kJ bs
  | [], i => by simp
  | b :: r, 0 => by rw [List.eraseIdx_zero, List.tail_cons, vR]; omega
  | b :: r, i + 1 => by have := DZ r i; rw [List.eraseIdx_cons_succ, vR, vR]; omega
theorem Sl {ts : List ByteArray} {bs : List IB} (n : ByteArray) (h : Bz ts bs) : Bz (uO ts bs n).1 (uO ts bs n).2.1 := by
 unfold uO
 split
 ·split
  ·exact h
  have := DZ bs (atI bs n).toNat
  unfold Bz at h ⊢; dsimp only; omega
 exact Bz.nil
theorem CX (ts : List ByteArray) (bs : List IB) (n : ByteArray) (h : Bz ts bs) : Ev (fun k => gI.f k ts bs n) (uO ts bs n) := by
 have hl := h.bs
 unfold gI.f uO
 refine Ev.bind (pM ts bs (by have := h.ts; omega) (by omega) h.bok) (Ev.test _ (fun hb => ?_) (fun hb => Ev.ret (by simp [hb])))
 rw [if_pos hb]
 refine Ev.bind (nJ ts bs h) (Ev.bind (yJ ts bs n (by omega)) ?_)
 refine Ev.prop (fun hc => Ev.ret (by rw [if_pos hc])) (fun hc => ?_)
 rw [if_neg hc]
 obtain ⟨i, e, hi⟩ := AJ bs n hc
 rw [e, Int.toNat_natCast, jR hi (by omega)]
 dsimp only
 refine Ev.bind (Ev.ret rfl) (Ev.pos (by omega) (Ev.pos (by omega) (Ev.bind (Ev.ret rfl) (Ev.pos (by simp only [List.length_nil, List.length_take]; omega) (Ev.bind (Ev.ret rfl) (Ev.pos (by omega) (Ev.pos (by omega) (Ev.bind (Ev.ret rfl) (Ev.pos (by simp only [List.nil_append, List.length_take, List.length_drop]; omega) (Ev.ret ?_))))))))))
 rw [List.nil_append, Int.toNat_natCast, List.eraseIdx_eq_take_drop_succ]
theorem CO (ts : List ByteArray) (bs : List IB) (n : ByteArray) (h : Bz ts bs) : Ev (fun k => lK.f k ts bs n) (uO ts bs n) := by
 have hl := h.bs
 unfold lK.f uO
 refine Ev.bind (kW ts bs (by have := h.ts; omega) (by omega) h.bok) (Ev.test _ (fun hb => ?_) (fun hb => Ev.ret (by simp [hb])))
 rw [if_pos hb]
 refine Ev.bind (tK ts bs h) (Ev.bind (Ev.ret (s := atI bs n) rfl) ?_)
 refine Ev.prop (fun hc => Ev.ret (by rw [if_pos hc])) (fun hc => ?_)
 rw [if_neg hc]
 obtain ⟨i, e, hi⟩ := AJ bs n hc
 rw [e, Int.toNat_natCast]
 exact Ev.pos ⟨hi, by dsimp only; omega⟩ (Ev.ret rfl)
def setN (bs : List IB) (i : Nat) (h n : List ByteArray) : List IB := bs.set i ⟨(gB bs i).f0, h, n⟩
def BF (ts : List ByteArray) (bs : List IB) (n : ByteArray) (needs : List ByteArray) : List ByteArray × List IB × Int :=
  if q8 ts bs = true then
    (if atI bs n < 0 then (ts, bs, 3) else if mM needs (gB bs (atI bs n).toNat).f2 = true then (ts, setN bs (atI bs n).toNat ((gB bs (atI bs n).toNat).f1.filter (hasS needs)) needs, 0) else (ts, bs, 2))
  else ([], [], 1)
theorem WE {bs : List IB} {i : Nat} (hi : i < bs.length) (x : IB) : kJ (bs.set i x) + (1 + (gB bs i).f1.length + (gB bs i).f2.length) = kJ bs + (1 + x.f1.length + x.f2.length) := by
 have e := List.set_eq_take_append_cons_drop (l := bs) (i := i) (a := x)
 rw [if_pos hi] at e
 have e2 : bs = bs.take i ++ gB bs i :: bs.drop (i + 1) := by
  have := List.drop_eq_getElem_cons hi
  unfold gB; rw [getD_lt bs _ hi, ← this, List.take_append_drop]
 have e3 : kJ bs = kJ (bs.take i) + (1 + (gB bs i).f1.length + (gB bs i).f2.length + kJ (bs.drop (i + 1))) := by
  rw [← vR, ← BR, ← e2]
 rw [e, BR, vR, e3]; omega
theorem TF (p : ByteArray → Bool) (l : List ByteArray) : (l.filter p).length ≤ l.length := List.length_filter_le p l
theorem Gl {bs : List IB} {i : Nat} (hi : i < bs.length) (p : ByteArray → Bool) (needs : List ByteArray) : kJ (setN bs i ((gB bs i).f1.filter p) needs) ≤ kJ bs + needs.length := by
 have := WE hi ⟨(gB bs i).f0, (gB bs i).f1.filter p, needs⟩
 have h2 := TF p (gB bs i).f1
 unfold setN; simp only at this; omega
theorem Xt {ts : List ByteArray} {bs : List IB} (n : ByteArray) {needs : List ByteArray} (h : ts.length + kJ bs ≤ 1048576) (hn : needs.length ≤ 1048576) : Bz (BF ts bs n needs).1 (BF ts bs n needs).2.1 := by
 unfold BF
 split
 ·split
  ·exact yC h
  rename_i hc
  obtain ⟨i, e, hi⟩ := AJ bs n hc
  rw [e, Int.toNat_natCast]
  split
  ·have := Gl hi (hasS needs) needs
   unfold Bz; dsimp only; omega
  exact yC h
 exact Bz.nil
theorem Az {l : List ByteArray} (p : ByteArray → Bool) {i : Nat} (h : i < l.length) : (l.take (i + 1)).filter p = (l.take i).filter p ++ (if p l[i] = true then [l[i]] else []) := by
 rw [List.take_succ_eq_append_getElem h, List.filter_append]
 cases hp : p l[i] <;> simp [hp]
theorem DW (ts : List ByteArray) (bs : List IB) (n : ByteArray) (needs : List ByteArray) (h : ts.length + kJ bs ≤ 1048576) (hn : needs.length ≤ 1048576) : Ev (fun k => eT.f k ts bs n needs) (BF ts bs n needs) := by
 have hz := yC h
 have hl := hz.bs
 unfold eT.f BF
 refine Ev.bind (pM ts bs (by have := hz.ts; omega) (by omega) hz.bok) (Ev.test _ (fun hb => ?_) (fun hb => Ev.ret (by simp [hb])))
 rw [if_pos hb]
 refine Ev.bind (nJ ts bs hz) (Ev.bind (yJ ts bs n (by omega)) ?_)
 refine Ev.prop (fun hc => Ev.ret (by rw [if_pos hc])) (fun hc => ?_)
 rw [if_neg hc]
 obtain ⟨i, e, hi⟩ := AJ bs n hc
 rw [e, Int.toNat_natCast]
 have hii := hz.at_ hi
 dsimp only
 refine Ev.pos (by omega) (Ev.pos (by omega) ?_)
 rw [iV]
 refine Ev.bind (sF needs _ (by omega) (by omega)) (Ev.test _ (fun ht => ?_) (fun ht => Ev.ret (by simp [ht])))
 rw [if_pos ht]
 have go : ∀ (d j : Nat), (gB bs i).f1.length - j = d → j ≤ (gB bs i).f1.length → Ev (fun k => eT.l0 k needs (i : Int) (((gB bs i).f1.take j).filter (hasS needs)) (j : Int) ts bs ts bs) (ts, setN bs i ((gB bs i).f1.filter (hasS needs)) needs, 0) := by
  intro d
  induction d with
  | zero =>
   intro j hd hj
   have hje : j = (gB bs i).f1.length := by omega
   refine Ev.step (fun k => eT.l0.eq_2 _ _ _ _ _ _ _ _ k) (Ev.pos (by omega) (Ev.pos (by omega) ?_))
   rw [iV]
   refine Ev.neg (by omega) (Ev.bind (zL needs (by omega)) (Ev.pos (by omega) (Ev.bind (Ev.ret rfl) ?_)))
   have hset : ((bs.set i (⟨(gB bs i).f0, (gB bs i).f1, needs⟩ : IB)).set i ⟨(gB bs i).f0, (gB bs i).f1.filter (hasS needs), needs⟩) = setN bs i ((gB bs i).f1.filter (hasS needs)) needs := by rw [List.set_set]; rfl
   have hrd : aA (bs.set i (⟨(gB bs i).f0, (gB bs i).f1, needs⟩ : IB)) (i : Int) = ⟨(gB bs i).f0, (gB bs i).f1, needs⟩ := by
    unfold aA
    rw [Int.toNat_natCast, List.getD_eq_getElem?_getD, List.getElem?_set_self hi]; rfl
   rw [Int.toNat_natCast, hrd, List.take_of_length_le (by omega), hset]
   have hw := Gl hi (hasS needs) needs
   exact Ev.bind (nJ ts _ (by unfold Bz; omega)) (Ev.ret rfl)
  | succ d ih =>
   intro j hd hj
   have hlt : j < (gB bs i).f1.length := by omega
   refine Ev.step (fun k => eT.l0.eq_2 _ _ _ _ _ _ _ _ k) (Ev.pos (by omega) (Ev.pos (by omega) ?_))
   rw [iV]
   refine Ev.pos (by omega) (Ev.pos (by omega) ?_)
   rw [mQ, show gS (gB bs i).f1 j = (gB bs i).f1[j] from getD_lt _ _ hlt, jR hlt (by omega)]
   have := ih (j + 1) (by omega) (by omega)
   rw [Az _ hlt] at this
   refine Ev.bind (sM needs _ (by omega)) (Ev.test _ (fun hp => Ev.pos ?_ ?_) (fun hp => ?_))
   ·have := TF (hasS needs) ((gB bs i).f1.take j); rw [List.length_take] at this; omega
   ·rw [if_pos hp] at this; exact this
   ·rw [if_neg (by simp [hp]), List.append_nil] at this; exact this
 have := go (gB bs i).f1.length 0 (by omega) (by omega)
 exact this
theorem NK (ts : List ByteArray) (bs : List IB) (n : ByteArray) (needs : List ByteArray) (h : ts.length + kJ bs ≤ 1048576) (hn : needs.length ≤ 1048576) : Ev (fun k => qO.f k ts bs n needs) (BF ts bs n needs) := by
 have hz := yC h
 have hl := hz.bs
 unfold qO.f BF
 refine Ev.bind (kW ts bs (by have := hz.ts; omega) (by omega) hz.bok) (Ev.test _ (fun hb => ?_) (fun hb => Ev.ret (by simp [hb])))
 rw [if_pos hb]
 refine Ev.bind (tK ts bs hz) (Ev.bind (Ev.ret (s := atI bs n) rfl) ?_)
 refine Ev.prop (fun hc => Ev.ret (by rw [if_pos hc])) (fun hc => ?_)
 rw [if_neg hc]
 obtain ⟨i, e, hi⟩ := AJ bs n hc
 rw [e, Int.toNat_natCast]
 have hii := hz.at_ hi
 refine Ev.pos ⟨by omega, by dsimp only; omega⟩ ?_
 rw [iV]
 refine Ev.bind (zI needs _ (by omega) (by omega)) (Ev.test _ (fun ht => ?_) (fun ht => Ev.ret (by simp [ht])))
 rw [if_pos ht]
 dsimp only
 exact Ev.bind (EU needs (by omega)) (Ev.ret (by simp [setN]))
def yL (bs : List IB) (at_ : Nat) (things : List ByteArray) (q : Nat) : Bool := !decide (q = at_) && nV (gB bs q).f1 things
def M3 (bs : List IB) (at_ : Nat) (things : List ByteArray) : Bool := anyR (yL bs at_ things) bs.length 0
def r9 (bs : List IB) (i : Nat) (things : List ByteArray) : List IB := setN bs i (pE (gB bs i).f1 things) (gB bs i).f2
def askB (ts : List ByteArray) (bs : List IB) (n : ByteArray) (things : List ByteArray) : List ByteArray × List IB × Int :=
  if q8 ts bs = true then
    (if atI bs n < 0 then (ts, bs, 3) else if mM things (gB bs (atI bs n).toNat).f2 = true then
      (if M3 bs (atI bs n).toNat things = true then (ts, bs, 5) else if (nT ts bs && !nT ts (r9 bs (atI bs n).toNat things)) = true then (ts, bs, 6) else (ts, r9 bs (atI bs n).toNat things, 0)) else (ts, bs, 2))
  else ([], [], 1)
theorem Iw {bs : List IB} {i : Nat} (hi : i < bs.length) (things : List ByteArray) : kJ (r9 bs i things) ≤ kJ bs + things.length := by
 have h1 := WE hi ⟨(gB bs i).f0, pE (gB bs i).f1 things, (gB bs i).f2⟩
 have h2 := LU things (gB bs i).f1
 unfold r9 setN; simp only at h1; omega
theorem RA {ts : List ByteArray} {bs : List IB} {i : Nat} (hi : i < bs.length) {things : List ByteArray} (h : ts.length + kJ bs ≤ 1048576) (hn : things.length ≤ 1048576) : Bz ts (r9 bs i things) := by
 have := Iw hi things
 unfold Bz; omega
theorem kr {ts : List ByteArray} {bs : List IB} (n : ByteArray) {things : List ByteArray} (h : ts.length + kJ bs ≤ 1048576) (hn : things.length ≤ 1048576) : Bz (askB ts bs n things).1 (askB ts bs n things).2.1 := by
 unfold askB
 split
 ·split
  ·exact yC h
  rename_i hc
  obtain ⟨i, e, hi⟩ := AJ bs n hc
  rw [e, Int.toNat_natCast]
  split
  ·split
   ·exact yC h
   split
   ·exact yC h
   exact RA hi h hn
  exact yC h
 exact Bz.nil
theorem Yg (l : List ByteArray) (h : l.length ≤ 67108864) : Ev (fun _ => sort_Strings.f l) (BG l) := ⟨0, fun _ _ => by unfold sort_Strings.f; rw [if_pos (by omega)]⟩
theorem Ca (l : List ByteArray) (a : ByteArray) (hl : l.length ≤ 67108864) (hf : insF a l = false) : Ev (fun k => dK.f k l a) (insL a l) := by
 unfold dK.f
 have go : ∀ (d i : Nat), l.length - i = d → i ≤ l.length → insF a (l.drop i) = false → Ev (fun k => dK.l0 k l a (i : Int)) (l.take i ++ insL a (l.drop i)) := by
  intro d
  induction d with
  | zero =>
   intro i hd hi _
   have hie : i = l.length := by omega
   refine Ev.step (fun k => dK.l0.eq_2 _ _ _ k) (Ev.neg (by omega) ?_)
   refine Ev.bind (Ev.ret rfl) (Ev.pos (by omega) (Ev.pos (by omega) ?_))
   rw [Int.toNat_natCast]
   refine Ev.pos (by simp only [List.length_nil, List.length_take]; omega) (Ev.bind (Ev.ret rfl) (Ev.bind (Ev.ret rfl) ?_))
   refine Ev.pos (by simp only [List.nil_append, List.length_take, List.length_cons, List.length_nil]; omega) (Ev.bind (Ev.ret rfl) (Ev.pos (by simp only [List.nil_append, List.length_append, List.length_take, List.length_drop, List.length_cons, List.length_nil]; omega) (Ev.ret ?_)))
   rw [hie, List.drop_eq_nil_of_le (Nat.le_refl _), List.nil_append, List.append_nil]; rfl
  | succ d ih =>
   intro i hd hi hf
   have hlt : i < l.length := by omega
   rw [List.drop_eq_getElem_cons hlt] at hf ⊢
   unfold insF at hf
   unfold insL
   refine Ev.step (fun k => dK.l0.eq_2 _ _ _ k) (Ev.pos (by omega) (Ev.pos (by omega) ?_))
   rw [mQ, show gS l i = l[i] from getD_lt _ _ hlt, jR hlt (by omega)]
   refine Ev.prop (fun hp => ?_) (fun hp => ?_)
   ·rw [if_pos hp] at hf
    rw [show (if Op.bytesLess l[i].toList a.toList = true then l[i] :: insL a (l.drop (i + 1)) else if (l[i].toList == a.toList) = true then l[i] :: l.drop (i + 1) else a :: l[i] :: l.drop (i + 1)) = l[i] :: insL a (l.drop (i + 1)) from if_pos hp]
    have := ih (i + 1) (by omega) (by omega) hf
    rw [List.take_succ_eq_append_getElem hlt, List.append_assoc] at this
    exact this
   ·rw [if_neg hp] at hf
    have hres : (if Op.bytesLess l[i].toList a.toList = true then l[i] :: insL a (l.drop (i + 1)) else if (l[i].toList == a.toList) = true then l[i] :: l.drop (i + 1) else a :: l[i] :: l.drop (i + 1)) = a :: l[i] :: l.drop (i + 1) := by
     rw [if_neg hp, if_neg (by rw [hf]; simp)]
    rw [hres]
    refine Ev.neg (by simpa using hf) ?_
    refine Ev.bind (Ev.ret rfl) (Ev.pos (by omega) ?_)
    rw [Int.toNat_natCast]
    refine Ev.pos (by simp only [List.length_nil, List.length_take]; omega) (Ev.bind (Ev.ret rfl) (Ev.bind (Ev.ret rfl) ?_))
    refine Ev.pos (by simp only [List.nil_append, List.length_take, List.length_cons, List.length_nil]; omega) (Ev.bind (Ev.ret rfl) (Ev.pos (by simp only [List.nil_append, List.length_append, List.length_take, List.length_drop, List.length_cons, List.length_nil]; omega) (Ev.ret ?_)))
    rw [List.nil_append, List.append_assoc, List.drop_eq_getElem_cons hlt]; rfl
 have := go l.length 0 (by omega) (by omega) hf
 exact this
theorem QP (ts : List ByteArray) (bs : List IB) (at_ : Nat) (things : List ByteArray) (h : Bz ts bs) (hn : things.length ≤ 1048576) : Ev (fun k => jI.f k ts bs (at_ : Int) things) (M3 bs at_ things) := by
 have hl := h.bs
 unfold jI.f
 refine Ev.loop (f := fun k i => jI.l0 k (at_ : Int) things (i : Int) ts bs) (val := anyR (yL bs at_ things) bs.length) bs.length ?_ ?_ 0 (by omega)
 ·rw [SQ]
  refine Ev.step (fun k => jI.l0.eq_2 _ _ _ _ _ k) ?_
  exact Ev.neg (by omega) (Ev.ret rfl)
 intro i hi H
 rw [OU _ hi]
 refine Ev.step (fun k => jI.l0.eq_2 _ _ _ _ _ k) (Ev.pos (by omega) ?_)
 rw [jR hi (by omega), iV]
 refine Ev.prop (fun e => Ev.sub H (by simp [yL, show i = at_ by omega])) (fun e => Ev.pos (by omega) (Ev.bind (AV _ _ (by have := h.at_ hi; omega) (by omega)) ?_))
 have hne : decide (i = at_) = false := decide_eq_false (by omega)
 refine Ev.test _ (fun h2 => Ev.ret (by simp [yL, h2, hne])) (fun h2 => Ev.sub H (by simp [yL, h2]))
theorem Yf {bs : List IB} {i : Nat} (hi : i < bs.length) (h n : List ByteArray) : gB (setN bs i h n) i = ⟨(gB bs i).f0, h, n⟩ := by
 unfold setN gB
 rw [List.getD_eq_getElem?_getD, List.getElem?_set_self hi]; rfl
theorem FC (ts : List ByteArray) (bs : List IB) (n : ByteArray) (things : List ByteArray) (h : ts.length + kJ bs ≤ 1048576) (hn : things.length ≤ 1048576) : Ev (fun k => fA.f k ts bs n things) (askB ts bs n things) := by
 have hz := yC h
 have hl := hz.bs
 have ht := hz.ts
 unfold fA.f askB
 refine Ev.bind (pM ts bs (by omega) (by omega) hz.bok) (Ev.test _ (fun hb => ?_) (fun hb => Ev.ret (by simp [hb])))
 rw [if_pos hb]
 refine Ev.bind (nJ ts bs hz) (Ev.bind (yJ ts bs n (by omega)) ?_)
 refine Ev.prop (fun hc => Ev.ret (by rw [if_pos hc])) (fun hc => ?_)
 rw [if_neg hc]
 obtain ⟨i, e, hi⟩ := AJ bs n hc
 rw [e, Int.toNat_natCast]
 have hii := hz.at_ hi
 dsimp only
 refine Ev.pos (by omega) (Ev.pos (by omega) ?_)
 rw [iV]
 refine Ev.bind (sF things _ (by omega) (by omega)) (Ev.test _ (fun hq => ?_) (fun hq => Ev.ret (by simp [hq])))
 rw [if_pos hq]
 refine Ev.bind (QP ts bs i things hz hn) (Ev.test _ (fun hk => Ev.ret (by simp [hk])) (fun hk => ?_))
 rw [if_neg (by simp [hk])]
 refine Ev.bind (nJ ts bs hz) ?_
 dsimp only
 have hself : setN bs i (pE (gB bs i).f1 (things.take 0)) (gB bs i).f2 = bs := by
  unfold setN pE
  rw [List.take_zero, List.foldl_nil]
  refine List.ext_getElem (by rw [List.length_set]) fun j h1 h2 => ?_
  rw [List.getElem_set]
  by_cases hj : i = j
  ·subst hj; rw [if_pos rfl]; unfold gB; rw [getD_lt bs _ hi]
  ·rw [if_neg hj]
 have go : ∀ (d j : Nat), things.length - j = d → j ≤ things.length → Ev (fun k => fA.l0 k things (i : Int) (j : Int) ts bs ts bs ts (setN bs i (pE (gB bs i).f1 (things.take j)) (gB bs i).f2)) (if (nT ts bs && !nT ts (r9 bs i things)) = true then (ts, bs, 6) else (ts, r9 bs i things, 0)) := by
  intro d
  induction d with
  | zero =>
   intro j hd hj
   rw [List.take_of_length_le (by omega), show setN bs i (pE (gB bs i).f1 things) (gB bs i).f2 = r9 bs i things from rfl]
   have hg := RA hi h hn
   have hgl := hg.bs
   refine Ev.step (fun k => fA.l0.eq_2 _ _ _ _ _ _ _ _ _ k) (Ev.neg (by omega) (Ev.bind (DX ts bs (by omega) (by omega) hz.bok) ?_))
   refine Ev.test _ (fun h1 => ?_) (fun h1 => ?_)
   ·refine Ev.bind (DX ts _ (by omega) (by omega) hg.bok) (Ev.test _ (fun h2 => ?_) (fun h2 => Ev.ret (by simp [h1, h2])))
    exact Ev.bind (nJ ts _ hg) (Ev.ret (by simp [h1, h2]))
   ·exact Ev.bind (nJ ts _ hg) (Ev.ret (by simp [h1]))
  | succ d ih =>
   intro j hd hj
   have hlt : j < things.length := by omega
   have hsn : pE (gB bs i).f1 (things.take (j + 1)) = insL things[j] (pE (gB bs i).f1 (things.take j)) := by
    rw [List.take_succ_eq_append_getElem hlt, Bo]
   have hlen : (setN bs i (pE (gB bs i).f1 (things.take j)) (gB bs i).f2).length = bs.length := by unfold setN; rw [List.length_set]
   have hil := LU (things.take j) (gB bs i).f1
   rw [List.length_take] at hil
   have next := ih (j + 1) (by omega) (by omega)
   refine Ev.step (fun k => fA.l0.eq_2 _ _ _ _ _ _ _ _ _ k) (Ev.pos (by omega) (Ev.pos (by omega) (Ev.pos (by rw [hlen]; omega) (Ev.pos (by omega) ?_))))
   rw [iV, Yf hi, mQ, show gS things j = things[j] from getD_lt _ _ hlt, jR hlt (by omega)]
   dsimp only
   refine Ev.test _ (fun hf => ?_) (fun hf => ?_)
   ·rw [hsn, VT _ _ hf] at next
    exact next
   ·refine Ev.bind (Ca _ _ (by omega) hf) ?_
    rw [Int.toNat_natCast]
    have e2 : (setN bs i (pE (gB bs i).f1 (things.take j)) (gB bs i).f2).set i ⟨(gB bs i).f0, insL things[j] (pE (gB bs i).f1 (things.take j)), (gB bs i).f2⟩ = setN bs i (pE (gB bs i).f1 (things.take (j + 1))) (gB bs i).f2 := by
     rw [hsn]; unfold setN; rw [List.set_set]
    rw [e2]
    exact next
 have := go things.length 0 (by omega) (by omega)
 rw [hself] at this
 exact this
theorem F3 (ts : List ByteArray) (bs : List IB) (n : ByteArray) (things : List ByteArray) (h : ts.length + kJ bs ≤ 1048576) (hn : things.length ≤ 1048576) : Ev (fun k => eG.f k ts bs n things) (askB ts bs n things) := by
 have hz := yC h
 have hl := hz.bs
 have ht := hz.ts
 unfold eG.f askB
 refine Ev.bind (kW ts bs (by omega) (by omega) hz.bok) (Ev.test _ (fun hb => ?_) (fun hb => Ev.ret (by simp [hb])))
 rw [if_pos hb]
 refine Ev.bind (tK ts bs hz) (Ev.bind (Ev.ret (s := atI bs n) rfl) ?_)
 refine Ev.prop (fun hc => Ev.ret (by rw [if_pos hc])) (fun hc => ?_)
 rw [if_neg hc]
 obtain ⟨i, e, hi⟩ := AJ bs n hc
 rw [e, Int.toNat_natCast]
 have hii := hz.at_ hi
 dsimp only
 refine Ev.pos (by omega) (Ev.pos (by omega) ?_)
 rw [iV]
 refine Ev.bind (zI things _ (by omega) (by omega)) (Ev.test _ (fun hq => ?_) (fun hq => Ev.ret (by simp [hq])))
 rw [if_pos hq]
 have hg := RA hi h hn
 have hgl := hg.bs
 refine Ev.loop (f := fun k j => eG.l0 k things (i : Int) bs (bs.length : Int) (j : Int) ts bs ts bs) (val := fun j => if anyR (yL bs i things) bs.length j = true then (ts, bs, 5) else if (nT ts bs && !nT ts (r9 bs i things)) = true then (ts, bs, 6) else (ts, r9 bs i things, 0)) bs.length ?_ ?_ 0 (by omega)
 ·rw [SQ, if_neg (by simp)]
  refine Ev.step (fun k => eG.l0.eq_2 _ _ _ _ _ _ _ _ _ k) (Ev.neg (by omega) (Ev.bind (tK ts bs hz) (Ev.pos (by omega) (Ev.pos (by omega) ?_))))
  rw [iV]
  dsimp only
  refine Ev.bind (EU _ hii.1) (Ev.pos (by omega) (Ev.bind (Yg _ (by rw [List.length_append]; omega)) ?_))
  refine Ev.bind (Ev.ret rfl) (Ev.pos (by omega) (Ev.bind (Ev.ret rfl) ?_))
  rw [Bp (Qh hb hi), Int.toNat_natCast, show bs.set i (⟨(gB bs i).f0, pE (gB bs i).f1 things, (gB bs i).f2⟩ : IB) = r9 bs i things from rfl]
  refine Ev.bind (uW ts bs (by omega) (by omega) hz.bok) (Ev.test _ (fun h1 => ?_) (fun h1 => Ev.ret (by simp [h1])))
  exact Ev.bind (uW ts _ (by omega) (by omega) hg.bok) (Ev.test _ (fun h2 => Ev.ret (by simp [h1, h2])) (fun h2 => Ev.ret (by simp [h1, h2])))
 intro j hj H
 rw [OU _ hj]
 refine Ev.step (fun k => eG.l0.eq_2 _ _ _ _ _ _ _ _ _ k) (Ev.pos (by omega) (Ev.pos (by omega) (Ev.pos (by omega) ?_)))
 rw [jR hj (by omega), iV]
 refine Ev.prop (fun e => Ev.sub H (by simp [yL, show j = i by omega])) (fun e => ?_)
 have hne : decide (j = i) = false := decide_eq_false (by omega)
 simp only [mD.f, Option.bind_some]
 refine Ev.test _ (fun h2 => Ev.ret ?_) (fun h2 => Ev.sub H ?_)
 ·rw [show yL bs i things j = true by unfold yL; rw [hne, show nV (gB bs j).f1 things = true from h2]; rfl]; simp
 rw [show yL bs i things j = false by unfold yL; rw [show nV (gB bs j).f1 things = false from h2]; simp]; simp
def Tot {α : Type} (g : Nat → Option α) (P : α → Prop) : Prop := ∃ r, Ev g r ∧ P r
theorem Tot.ret {α : Type} {r : α} {P : α → Prop} (h : P r) : Tot (fun _ => some r) P := ⟨r, Ev.ret rfl, h⟩
theorem Tot.bind {α β : Type} {g : Nat → Option α} {f : Nat → α → Option β} {P : α → Prop} {Q : β → Prop} (H : Tot g P) (K : ∀ x, P x → Tot (fun k => f k x) Q) : Tot (fun k => (g k).bind fun x => f k x) Q := by
 obtain ⟨x, h1, h2⟩ := H
 obtain ⟨y, h3, h4⟩ := K x h2
 exact ⟨y, Ev.bind h1 h3, h4⟩
theorem Tot.Q3 {α β : Type} {g : Nat → Option α} {f : Nat → α → Option β} {r : α} {Q : β → Prop} (H : Ev g r) (K : Tot (fun k => f k r) Q) : Tot (fun k => (g k).bind fun x => f k x) Q := by
 obtain ⟨y, h3, h4⟩ := K
 exact ⟨y, Ev.bind H h3, h4⟩
theorem Tot.pos {α : Type} {c : Prop} [Decidable c] {a b : Nat → Option α} {P : α → Prop} (h : c) (H : Tot a P) : Tot (fun k => if c then a k else b k) P := by
 obtain ⟨r, h1, h2⟩ := H; exact ⟨r, Ev.pos h h1, h2⟩
theorem Tot.neg {α : Type} {c : Prop} [Decidable c] {a b : Nat → Option α} {P : α → Prop} (h : ¬ c) (H : Tot b P) : Tot (fun k => if c then a k else b k) P := by
 obtain ⟨r, h1, h2⟩ := H; exact ⟨r, Ev.neg h h1, h2⟩
theorem Tot.prop {α : Type} {c : Prop} [Decidable c] {a b : Nat → Option α} {P : α → Prop} (H1 : c → Tot a P) (H2 : ¬ c → Tot b P) : Tot (fun k => if c then a k else b k) P := by
 by_cases h : c
 ·exact Tot.pos h (H1 h)
 exact Tot.neg h (H2 h)
theorem Tot.weak {α : Type} {g : Nat → Option α} {P Q : α → Prop} (H : Tot g P) (h : ∀ x, P x → Q x) : Tot g Q := by
 obtain ⟨r, h1, h2⟩ := H; exact ⟨r, h1, h r h2⟩
theorem Tot.step {α : Type} {f g : Nat → Option α} {P : α → Prop} (e : ∀ k, f (k + 1) = g k) (H : Tot g P) : Tot f P := by
 obtain ⟨r, h1, h2⟩ := H; exact ⟨r, Ev.step e h1, h2⟩
theorem Tot.sub {α : Type} {f g : Nat → Option α} {P : α → Prop} (e : f = g) (H : Tot g P) : Tot f P := e ▸ H
def Bs (s : List Int) : Prop := ∀ x ∈ s, 0 ≤ x ∧ x ≤ 255
theorem YY {s : List Int} (h : Bs s) (i : Int) : 0 ≤ rd s i ∧ rd s i ≤ 255 := by
 unfold rd
 rw [List.getD_eq_getElem?_getD]
 cases hx : s[i.toNat]? with
 | none => simp
 | some x => exact h x (List.mem_of_getElem? hx)
theorem si {x y : Int} (hx : 0 ≤ x) (Nh : x < 9223372036854775808) (hy : 0 ≤ y) (hy2 : y < 9223372036854775808) : 0 ≤ Go.bits .xor .i64 x y := by
 have e : ∀ z : Int, 0 ≤ z → z < 9223372036854775808 → (BitVec.ofInt 64 z).toNat < 2 ^ 63 := by
  intro z h1 h2
  rw [BitVec.toNat_ofInt]
  omega
 have hlt : (BitVec.ofInt 64 x ^^^ BitVec.ofInt 64 y).toNat < 2 ^ 63 := by
  rw [BitVec.toNat_xor]
  exact Nat.xor_lt_two_pow (e x hx Nh) (e y hy hy2)
 have : Go.bits .xor .i64 x y = wrap64 ((BitVec.ofInt 64 x ^^^ BitVec.ofInt 64 y).toNat : Int) := by
  rw [← sD]; rfl
 rw [this, mE _ (by omega)]
 omega
theorem AB {s : List Int} (Hs : Bs s) {p : Int} (h0 : 0 ≤ p) (h1 : p ≤ 1000000) (n : Int) : Tot (fun k => dZ.f k s p n) (fun r => 0 ≤ r.1 ∧ (0 < n → r.1 < n) ∧ r.2 = p + 1) := by
 unfold dZ.f
 rw [mE (p + 1) (by omega)]
 have quick : Tot (fun k => dZ.j0 k n true s (p + 1)) (fun r => 0 ≤ r.1 ∧ (0 < n → r.1 < n) ∧ r.2 = p + 1) :=
   Tot.step (fun k => dZ.j0.eq_2 _ _ _ _ k) (Tot.pos rfl (Tot.ret ⟨Int.le_refl _, fun h => h, rfl⟩))
 refine Tot.prop (fun _ => quick) (fun hn => ?_)
 by_cases hl : s.length = 0
 ·rw [show ((s.length : Int) == 0) = true from beq_iff_eq.2 (by omega)]; exact quick
 rw [show ((s.length : Int) == 0) = false from beq_eq_false_iff_ne.2 (by omega)]
 refine Tot.step (fun k => dZ.j0.eq_2 _ _ _ _ k) (Tot.neg (by simp) ?_)
 rw [show wrap64 (p + 1 - 1) = p from by unfold wrap64; omega]
 refine Tot.prop (fun hq => Tot.pos h0 (Tot.neg (by omega) (Tot.ret ?_))) (fun hq => Tot.neg (by omega) ?_)
 ·obtain ⟨b1, b2⟩ := YY Hs p
  rw [mE _ (by omega)]
  exact ⟨Int.tmod_nonneg _ b1, fun h => Int.tmod_lt_of_pos _ h, rfl⟩
 have hlen : (0 : Int) < (s.length : Int) := by omega
 have hw : wrap64 (wrap64 (p * 7) + 3) = p * 7 + 3 := by rw [mE (p * 7) (by omega), mE _ (by omega)]
 rw [hw]
 refine Tot.pos (Int.tmod_nonneg _ h0) (Tot.pos (Int.tmod_lt_of_pos _ hlen) (Tot.pos (Int.tmod_nonneg _ (by omega)) (Tot.pos (Int.tmod_lt_of_pos _ hlen) (Tot.neg (by omega) (Tot.ret ?_)))))
 obtain ⟨b1, b2⟩ := YY Hs (Int.tmod p (s.length : Int))
 obtain ⟨b3, b4⟩ := YY Hs (Int.tmod (p * 7 + 3) (s.length : Int))
 have d1 : 0 ≤ Int.tdiv p (s.length : Int) := Int.tdiv_nonneg h0 (by omega)
 have d2 : Int.tdiv p (s.length : Int) ≤ p := by rw [Int.tdiv_eq_ediv_of_nonneg h0]; exact Int.ediv_le_self _ h0
 generalize rd s (Int.tmod p (s.length : Int)) = m1 at b1 b2 ⊢
 generalize rd s (Int.tmod (p * 7 + 3) (s.length : Int)) = m2 at b3 b4 ⊢
 generalize Int.tdiv p (s.length : Int) = d at d1 d2 ⊢
 have big : wrap64 (wrap64 (wrap64 (wrap64 (wrap64 m1 * 131) + wrap64 (wrap64 m2 * 1117)) + wrap64 (p * 29)) + wrap64 (wrap64 d * 53)) = m1 * 131 + m2 * 1117 + p * 29 + d * 53 := by
   rw [mE m1 (by omega), mE m2 (by omega), mE d (by omega), mE (m1 * 131) (by omega), mE (m2 * 1117) (by omega), mE (p * 29) (by omega), mE (d * 53) (by omega), mE (m1 * 131 + m2 * 1117) (by omega), mE (m1 * 131 + m2 * 1117 + p * 29) (by omega), mE _ (by omega)]
 rw [big]
 have hx : 0 ≤ m1 * 131 + m2 * 1117 + p * 29 + d * 53 := by omega
 have ht : Int.tdiv (m1 * 131 + m2 * 1117 + p * 29 + d * 53) 64 = (m1 * 131 + m2 * 1117 + p * 29 + d * 53) / 64 := Int.tdiv_eq_ediv_of_nonneg hx
 rw [ht, mE _ (by omega)]
 exact ⟨Int.tmod_nonneg _ (si hx (by omega) (by omega) (by omega)), fun h => Int.tmod_lt_of_pos _ h, rfl⟩
theorem YO {s : List Int} (Hs : Bs s) {p : Int} (h0 : 0 ≤ p) (h1 : p ≤ 1000000) {l : List ByteArray} (hl : 0 < l.length) : Tot (fun k => l7.f k s p l) (fun r => r.2 = p + 1) := by
 unfold l7.f
 refine Tot.bind (AB Hs h0 h1 _) (fun x hx => ?_)
 exact Tot.pos hx.1 (Tot.pos (hx.2.1 (by omega)) (Tot.ret hx.2.2))
theorem U3 {s : List Int} (Hs : Bs s) {p : Int} (h0 : 0 ≤ p) {l : List ByteArray} (of_ : Int) (h1 : p + l.length ≤ 1000000) : Tot (fun k => iN.f k s p l of_) (fun r => r.1.length ≤ l.length ∧ p ≤ r.2 ∧ r.2 ≤ p + l.length) := by
 unfold iN.f
 have go : ∀ (d i : Nat) (p : Int) (x : List ByteArray), i + d = l.length → 0 ≤ p → p + d ≤ 1000000 → x.length ≤ i → Tot (fun k => iN.l0 k l of_ x (i : Int) s p) (fun r => r.1.length ≤ l.length ∧ p ≤ r.2 ∧ r.2 ≤ p + d) := by
  intro d
  induction d with
  | zero =>
   intro i p x hi h0 h1 hx
   refine Tot.step (fun k => iN.l0.eq_2 _ _ _ _ _ _ k) (Tot.neg (by omega) (Tot.ret ?_))
   dsimp only; omega
  | succ d ih =>
   intro i p x hi h0 h1 hx
   refine Tot.step (fun k => iN.l0.eq_2 _ _ _ _ _ _ k) (Tot.pos (by omega) (Tot.bind (AB Hs h0 (by omega) _) (fun y hy => ?_)))
   obtain ⟨_, _, e⟩ := hy
   rw [e, jR (show i < l.length by omega) (by omega)]
   refine Tot.prop (fun _ => Tot.pos (by omega) (Tot.pos (by omega) ((ih (i + 1) (p + 1) _ (by omega) (by omega) (by omega) (by rw [List.length_append, List.length_singleton]; omega)).weak fun r h => ?_))) (fun _ => (ih (i + 1) (p + 1) x (by omega) (by omega) (by omega) (by omega)).weak fun r h => ?_)
   ·omega
   ·omega
 exact go l.length 0 p [] (by omega) h0 h1 (by simp)
def Gd (n : Nat) (ts : List ByteArray) (bs : List IB) : Prop := ts.length ≤ 5 ∧ (∀ b ∈ bs, b.f2.length ≤ 5 + n) ∧ kJ bs ≤ 100 * n
theorem Sw {bs : List IB} {m : Nat} (h : ∀ b ∈ bs, b.f2.length ≤ m) (i : Nat) : (gB bs i).f2.length ≤ m := by
 by_cases hi : i < bs.length
 ·exact h _ (AP hi)
 have : gB bs i = z52 := by unfold gB; rw [List.getD_eq_getElem?_getD, List.getElem?_eq_none (by omega)]; rfl
 rw [this]; exact Nat.zero_le _
def y8 : List ByteArray := [(⟨#[106]⟩ : ByteArray), (⟨#[107, 101, 103]⟩ : ByteArray), (⟨#[116, 117, 110]⟩ : ByteArray), (⟨#[118, 97, 116]⟩ : ByteArray), (⟨#[119]⟩ : ByteArray)]
theorem Qb {s : List Int} (Hs : Bs s) {p : Int} (h0 : 0 ≤ p) (h1 : p ≤ 999000) : Tot (fun k => gL.f k s p) (fun r => r.1.Sublist y8 ∧ r.2.1 = [] ∧ p ≤ r.2.2 ∧ r.2.2 ≤ p + 5) := by
 unfold gL.f
 have go : ∀ (d i : Nat) (p : Int) (x : List ByteArray), i + d = 5 → 0 ≤ p → p + d ≤ 999500 → x.Sublist (y8.take i) → Tot (fun k => gL.l0 k y8 (i : Int) s p x) (fun r => r.1.Sublist y8 ∧ r.2.1 = [] ∧ p ≤ r.2.2 ∧ r.2.2 ≤ p + d) := by
  intro d
  induction d with
  | zero =>
   intro i p x hi h0 h1 hx
   refine Tot.step (fun k => gL.l0.eq_2 _ _ _ _ _ k) (Tot.neg (by show ¬ ((i : Int) < ((5 : Nat) : Int)); omega) (Tot.ret ?_))
   rw [List.take_of_length_le (show y8.length ≤ i by show 5 ≤ i; omega)] at hx
   dsimp only; exact ⟨hx, rfl, by omega, by omega⟩
  | succ d ih =>
   intro i p x hi h0 h1 hx
   have hxl : x.length ≤ 5 := Nat.le_trans hx.length_le (by rw [List.length_take]; show min i 5 ≤ 5; omega)
   have hil : i < y8.length := by show i < 5; omega
   refine Tot.step (fun k => gL.l0.eq_2 _ _ _ _ _ k) (Tot.pos (by show (i : Int) < ((5 : Nat) : Int); omega) (Tot.bind (AB Hs h0 (by omega) _) (fun y hy => ?_)))
   obtain ⟨_, _, e⟩ := hy
   rw [e, jR hil (by show 5 ≤ 9223372036854775807; omega)]
   have ht : y8.take (i + 1) = y8.take i ++ [y8[i]] := List.take_succ_eq_append_getElem hil
   refine Tot.prop (fun _ => Tot.pos (by omega) (Tot.pos (by omega) ((ih (i + 1) (p + 1) _ (by omega) (by omega) (by omega) ?_).weak fun r h => ?_))) (fun _ => (ih (i + 1) (p + 1) x (by omega) (by omega) (by omega) ?_).weak fun r h => ?_)
   ·rw [ht, mQ, show gS y8 i = y8[i] from getD_lt _ _ hil]
    exact List.Sublist.append hx (List.Sublist.refl _)
   ·exact ⟨h.1, h.2.1, by omega, by omega⟩
   ·rw [ht]; exact hx.trans (List.sublist_append_left _ _)
   ·exact ⟨h.1, h.2.1, by omega, by omega⟩
 exact (go 5 0 p [] (by omega) h0 (by omega) (by simp)).weak fun r h => ⟨h.1, h.2.1, by omega, by omega⟩
theorem Rb {s : List Int} (Hs : Bs s) {p : Int} (h0 : 0 ≤ p) {ts : List ByteArray} {bs : List IB} {m : Nat} (ht : ts.length ≤ m) (hb : ∀ b ∈ bs, b.f2.length ≤ m) (hl : bs.length ≤ 1048576) (h1 : p + m ≤ 999000) :
  Tot (fun k => bQ.f k s p ts bs) (fun r => r.2.2.1.length ≤ m + 1 ∧ p ≤ r.2.2.2 ∧ r.2.2.2 ≤ p + m + 7) := by
 unfold bQ.f
 have j4 : ∀ (p : Int) (a : Int) (n : ByteArray) (l : List ByteArray), 0 ≤ p → p ≤ 999900 → l.length ≤ m → Tot (fun k => bQ.j4 k s p a n l) (fun r => r.2.2.1.length ≤ m + 1 ∧ p ≤ r.2.2.2 ∧ r.2.2.2 ≤ p + 2) := by
  intro p a n l h0 h1 hl
  refine Tot.step (fun k => bQ.j4.eq_2 _ _ _ _ _ k) (Tot.bind (AB Hs h0 (by omega) _) (fun y hy => ?_))
  obtain ⟨_, _, e⟩ := hy
  rw [e]
  refine Tot.prop (fun _ => Tot.bind (YO Hs (by omega) (by omega) (by simp)) (fun z hz => Tot.pos (by omega) (Tot.ret ?_))) (fun _ => Tot.prop (fun _ => Tot.bind (YO Hs (by omega) (by omega) (by simp)) (fun z hz => Tot.ret ?_)) (fun _ => Tot.ret ?_))
  ·dsimp only; rw [hz, List.length_append, List.length_singleton]; omega
  ·dsimp only; rw [hz]; omega
  ·dsimp only; omega
 have j3 : ∀ (p : Int) (x : List ByteArray) (q : Int) (b : Bool) (a : Int) (n : ByteArray), 0 ≤ p → p + m ≤ 999800 → x.length ≤ m → Tot (fun k => bQ.j3 k x q b s p ts bs a n) (fun r => r.2.2.1.length ≤ m + 1 ∧ p ≤ r.2.2.2 ∧ r.2.2.2 ≤ p + m + 3) := by
  intro p x q b a n h0 h1 hx
  refine Tot.step (fun k => bQ.j3.eq_2 _ _ _ _ _ _ _ _ _ k) ?_
  refine Tot.prop (fun _ => Tot.Q3 (Ev.ret rfl) (Tot.bind (YO Hs h0 (by omega) (by simp)) (fun y hy => ?_))) (fun _ => Tot.prop (fun _ => Tot.bind (U3 Hs h0 2 (by omega)) (fun y hy => ?_)) (fun _ => Tot.prop (fun _ => ?_) (fun _ => Tot.bind (U3 Hs h0 2 (by omega)) (fun y hy => ?_))))
  ·rw [hy]
   refine Tot.bind (U3 Hs (by omega) 2 (by omega)) (fun z hz => ?_)
   obtain ⟨z1, z2, z3⟩ := hz
   exact (j4 z.2 _ _ _ (by omega) (by omega) (by omega)).weak fun r h => ⟨h.1, by omega, by omega⟩
  ·obtain ⟨z1, z2, z3⟩ := hy
   exact (j4 y.2 _ _ _ (by omega) (by omega) (by omega)).weak fun r h => ⟨h.1, by omega, by omega⟩
  ·exact (j4 p _ _ _ h0 (by omega) (by simp)).weak fun r h => ⟨h.1, by omega, by omega⟩
  ·obtain ⟨z1, z2, z3⟩ := hy
   exact (j4 y.2 _ _ _ (by omega) (by omega) (by omega)).weak fun r h => ⟨h.1, by omega, by omega⟩
 have j2 : ∀ (p : Int) (x : List ByteArray) (a : Int) (n : ByteArray), 0 ≤ p → p + m ≤ 999700 → x.length ≤ m → Tot (fun k => bQ.j2 k x s p ts bs a n) (fun r => r.2.2.1.length ≤ m + 1 ∧ p ≤ r.2.2.2 ∧ r.2.2.2 ≤ p + m + 4) := by
  intro p x a n h0 h1 hx
  refine Tot.step (fun k => bQ.j2.eq_2 _ _ _ _ _ _ _ k) (Tot.bind (AB Hs h0 (by omega) _) (fun y hy => ?_))
  obtain ⟨_, _, e⟩ := hy
  rw [e]
  have J : ∀ q b, Tot (fun k => bQ.j3 k x q b s (p + 1) ts bs a n) (fun r => r.2.2.1.length ≤ m + 1 ∧ p ≤ r.2.2.2 ∧ r.2.2.2 ≤ p + m + 4) := fun q b => (j3 (p + 1) x q b a n (by omega) (by omega) hx).weak fun r h => ⟨h.1, by omega, by omega⟩
  exact Tot.prop (fun _ => J _ _) (fun _ => Tot.prop (fun _ => J _ _) (fun _ => J _ _))
 have j1 : ∀ (p : Int) (a : Int) (n : ByteArray), 0 ≤ p → p + m ≤ 999700 → Tot (fun k => bQ.j1 k s p ts bs a n) (fun r => r.2.2.1.length ≤ m + 1 ∧ p ≤ r.2.2.2 ∧ r.2.2.2 ≤ p + m + 4) := by
  intro p a n h0 h1
  refine Tot.step (fun k => bQ.j1.eq_2 _ _ _ _ _ _ k) (Tot.Q3 (yJ ts bs n (by omega)) ?_)
  refine Tot.prop (fun h => ?_) (fun _ => j2 p ts a n h0 h1 ht)
  obtain ⟨i, e, hi⟩ := AJ bs n (by omega)
  rw [e]
  refine Tot.pos (by omega) (Tot.pos (by omega) ?_)
  rw [iV]
  exact j2 p _ a n h0 h1 (Sw hb i)
 have j0 : ∀ (p : Int) (b : Bool) (a : Int) (n : ByteArray), 0 ≤ p → p + m ≤ 999600 → (b = true → 0 < bs.length) → Tot (fun k => bQ.j0 k b s p ts bs a n) (fun r => r.2.2.1.length ≤ m + 1 ∧ p ≤ r.2.2.2 ∧ r.2.2.2 ≤ p + m + 5) := by
  intro p b a n h0 h1 hbl
  refine Tot.step (fun k => bQ.j0.eq_2 _ _ _ _ _ _ _ k) (Tot.prop (fun h => Tot.bind (AB Hs h0 (by omega) _) (fun y hy => ?_)) (fun _ => (j1 p a n h0 (by omega)).weak fun r h => ⟨h.1, by omega, by omega⟩))
  obtain ⟨y1, y2, e⟩ := hy
  have := hbl h
  rw [e]
  exact Tot.pos y1 (Tot.pos (y2 (by omega)) ((j1 (p + 1) a _ (by omega) (by omega)).weak fun r h => ⟨h.1, by omega, by omega⟩))
 refine Tot.Q3 (Ev.ret rfl) (Tot.bind (YO Hs h0 (by omega) (by simp)) (fun y hy => ?_))
 rw [hy]
 refine Tot.prop (fun h => Tot.bind (AB Hs (by omega) (by omega) _) (fun z hz => ?_)) (fun _ => (j0 (p + 1) _ _ _ (by omega) (by omega) (by simp)).weak fun r h => ⟨h.1, by omega, by omega⟩)
 obtain ⟨_, _, e⟩ := hz
 rw [e]
 exact (j0 (p + 1 + 1) _ _ _ (by omega) (by omega) (fun _ => by omega)).weak fun r h => ⟨h.1, by omega, by omega⟩
theorem zZ {l : List ByteArray} {s : ByteArray} : hasS l s = true ↔ s ∈ l := by
 unfold hasS; rw [List.any_eq_true]
 constructor
 ·rintro ⟨x, hx, h⟩; rw [toList_inj.1 (beq_iff_eq.1 h)]; exact hx
 intro h; exact ⟨s, h, by simp⟩
theorem Iz {l : List ByteArray} {s : ByteArray} : hasS l s = false ↔ s ∉ l := by
 rw [← zZ]; cases hasS l s <;> simp
theorem U1 {a b : List ByteArray} : nV a b = true ↔ ∃ s, s ∈ a ∧ s ∈ b := by
 unfold nV; rw [List.any_eq_true]
 constructor
 ·rintro ⟨s, h1, h2⟩; exact ⟨s, h1, zZ.1 h2⟩
 rintro ⟨s, h1, h2⟩; exact ⟨s, h1, zZ.2 h2⟩
theorem uJ {a b : List ByteArray} : nV a b = false ↔ ∀ s, s ∈ a → s ∉ b := by
 rw [← Bool.not_eq_true, U1]
 constructor
 ·intro h s h1 h2; exact h ⟨s, h1, h2⟩
 rintro h ⟨s, h1, h2⟩; exact h s h1 h2
theorem U2 {a b c d : List ByteArray} (h : nV a b = false) (h1 : ∀ s, s ∈ c → s ∈ a) (h2 : ∀ s, s ∈ d → s ∈ b) : nV c d = false := by
 rw [uJ] at *
 intro s hs ht; exact h s (h1 s hs) (h2 s ht)
theorem IR {a b : List ByteArray} (h : nV a b = false) : nV b a = false := by
 rw [uJ] at *
 intro s hs ht; exact h s ht hs
theorem CK {bs : List IB} {i : Nat} (hi : i < bs.length) : gB bs i = bs[i] := getD_lt bs _ hi
theorem P6 {bs : List IB} {b : IB} (h : b ∈ bs) : ∃ i, i < bs.length ∧ gB bs i = b := by
 obtain ⟨i, hi, rfl⟩ := List.getElem_of_mem h
 exact ⟨i, hi, CK hi⟩
theorem Ej (a : List UInt8) : Op.bytesLess a a = false := by
 rw [bytesLess_eq, decide_eq_false_iff_not]; exact List.lt_irrefl a
theorem FO {bs : List IB} (ha : Asc bs) {i j : Nat} (hi : i < bs.length) (hj : j < bs.length) (h : (gB bs i).f0 = (gB bs j).f0) : i = j := by
 rw [CK hi, CK hj] at h
 have hp := List.pairwise_iff_getElem.1 ha
 rcases Nat.lt_trichotomy i j with q | q | q
 ·have := hp i j hi hj q; rw [h, Ej] at this; exact absurd this (by simp)
 ·exact q
 have := hp j i hj hi q; rw [h, Ej] at this; exact absurd this (by simp)
theorem IA {bs : List IB} {i : Nat} {gone : List ByteArray} : canB bs i gone = true ↔ ∀ q, q < bs.length → q = i ∨ (gB bs q).f0 ∈ gone ∨ nV (gB bs q).f1 (gB bs i).f2 = false := by
 unfold canB; rw [uA]
 simp only [canP, Bool.or_eq_true, decide_eq_true_eq, zZ, Bool.not_eq_true', Nat.zero_le, true_implies]
theorem Qa {bs : List IB} (ha : Asc bs) {i : Nat} (hi : i < bs.length) : atI bs (gB bs i).f0 = (i : Int) := by
 have h : ¬ atI bs (gB bs i).f0 < 0 := by
  intro h
  exact X9 (by omega) (gB bs i) (AP hi) rfl
 obtain ⟨a, e, h1, h2⟩ := ku h
 rw [e, FO ha h1 hi (toList_inj.1 h2)]
theorem ED : ∀ {l m : List ByteArray}, l.Nodup → (∀ s, s ∈ l → s ∈ m) → l.length ≤ m.length
  | [], m, _, _ => Nat.zero_le _
  | a :: l, m, hn, hs => by
    rw [List.nodup_cons] at hn
    have ha := hs a (List.mem_cons_self ..)
    obtain ⟨m1, m2, rfl⟩ := List.append_of_mem ha
    have h := ED (l := l) (m := m1 ++ m2) hn.2 fun s h => by
      rcases List.mem_append.1 (hs s (List.mem_cons_of_mem _ h)) with h1 | h1
      · exact List.mem_append.2 (.inl h1)
      · rcases List.mem_cons.1 h1 with e | h1
        · exact absurd (e ▸ h) hn.1
        · exact List.mem_append.2 (.inr h1)
    rw [List.length_append] at h
    rw [List.length_append, List.length_cons, List.length_cons]; omega
theorem Gn {l m : List ByteArray} (hn : l.Nodup) (hs : ∀ s, s ∈ l → s ∈ m) (hl : m.length ≤ l.length) : ∀ s, s ∈ m → s ∈ l := by
 intro s h
 by_cases hc : s ∈ l
 ·exact hc
 have := ED (l := s :: l) (m := m) (List.nodup_cons.2 ⟨hc, hn⟩) fun x hx => by
  rcases List.mem_cons.1 hx with rfl | hx
  ·exact h
  ·exact hs x hx
 rw [List.length_cons] at this; omega
def yB (bs : List IB) : List ByteArray := bs.map fun b => b.f0
theorem xS {bs : List IB} {s : ByteArray} : s ∈ yB bs ↔ ∃ i, i < bs.length ∧ (gB bs i).f0 = s := by
 unfold yB; rw [List.mem_map]
 constructor
 ·rintro ⟨b, hb, rfl⟩; obtain ⟨i, hi, rfl⟩ := P6 hb; exact ⟨i, hi, rfl⟩
 rintro ⟨i, hi, rfl⟩; exact ⟨_, AP hi, rfl⟩
theorem UI {bs : List IB} (ha : Asc bs) : (yB bs).Nodup := by
 unfold yB List.Nodup
 rw [List.pairwise_map]
 exact List.Pairwise.imp (fun {a b} h e => by rw [e, Ej] at h; exact absurd h (by simp)) ha
inductive Goes (bs : List IB) : List ByteArray → Prop
  | all {gone : List ByteArray} : (∀ s, s ∈ yB bs → s ∈ gone) → Goes bs gone
  | one {gone : List ByteArray} {i : Nat} : i < bs.length → canB bs i gone = true → Goes bs (gone ++ [(gB bs i).f0]) → Goes bs gone
def First (bs : List IB) (S : ByteArray → Prop) : Prop := ∃ y, y < bs.length ∧ S (gB bs y).f0 ∧ ∀ x, x < bs.length → S (gB bs x).f0 → x = y ∨ nV (gB bs x).f1 (gB bs y).f2 = false
def X3 (bs : List IB) : Prop := ∀ S : ByteArray → Prop, (∃ i, i < bs.length ∧ S (gB bs i).f0) → First bs S
theorem Lu {bs : List IB} {gone : List ByteArray} (h : Goes bs gone) : ∀ S : ByteArray → Prop, (∃ i, i < bs.length ∧ S (gB bs i).f0) → (∀ s, s ∈ gone → ¬ S s) → First bs S := by
 induction h with
 | all h => intro S ⟨i, hi, hs⟩ hg; exact absurd hs (hg _ (h _ (xS.2 ⟨i, hi, rfl⟩)))
 | @one gone i hi hc _ ih =>
  intro S hS hg
  by_cases hs : S (gB bs i).f0
  ·refine ⟨i, hi, hs, fun x hx hxs => ?_⟩
   rcases IA.1 hc x hx with h | h | h
   ·exact .inl h
   ·exact absurd hxs (hg _ h)
   ·exact .inr h
  ·refine ih S hS fun s h => ?_
   rcases List.mem_append.1 h with h | h
   ·exact hg s h
   ·rw [List.mem_singleton.1 h]; exact hs
theorem Iy {bs : List IB} : ∀ (d : Nat) (gone : List ByteArray), gone.Nodup → (∀ s, s ∈ gone → s ∈ yB bs) → gone.length + d = bs.length → (yD bs d gone).2 = true → Goes bs gone
  | 0, gone, hn, hs, hl, _ => .all (Gn hn hs (by unfold yB; rw [List.length_map]; omega))
  | d + 1, gone, hn, hs, hl, h => by
    unfold yD at h
    cases hx : QB bs gone with
    | none => rw [hx] at h; exact absurd h (by simp)
    | some i =>
      rw [hx] at h
      obtain ⟨_, hi, hp⟩ := MV hx
      unfold F4 at hp
      rw [Bool.and_eq_true, Bool.not_eq_true', Iz] at hp
      refine .one hi hp.2 (Iy d _ ?_ ?_ (by rw [List.length_append, List.length_singleton]; omega) h)
      · rw [List.nodup_append]
        refine ⟨hn, by simp, fun a ha b hb e => ?_⟩
        rw [List.mem_singleton] at hb
        exact hp.1 (hb ▸ e ▸ ha)
      · intro s h
        rcases List.mem_append.1 h with h | h
        · exact hs s h
        · rw [List.mem_singleton.1 h]; exact xS.2 ⟨i, hi, rfl⟩
theorem Im {bs : List IB} (ha : Asc bs) (H : X3 bs) : ∀ (d : Nat) (gone : List ByteArray), gone.length + d = bs.length → (yD bs d gone).2 = true
 | 0, gone, _ => rfl
 | d + 1, gone, hl => by
  unfold yD
  cases hx : QB bs gone with
  | some i => exact Im ha H d _ (by rw [List.length_append, List.length_singleton]; omega)
  | none =>
   exfalso
   unfold QB BA at hx
   rw [List.find?_eq_none] at hx
   have hm : ∃ i, i < bs.length ∧ (gB bs i).f0 ∉ gone := by
    by_cases hc : ∀ s, s ∈ yB bs → s ∈ gone
    ·have := ED (UI ha) hc
     unfold yB at this
     rw [List.length_map] at this; omega
    ·obtain ⟨s, h1, h2⟩ : ∃ s, s ∈ yB bs ∧ s ∉ gone := by
      apply Classical.byContradiction
      intro h; exact hc fun s h1 => Classical.byContradiction fun h2 => h ⟨s, h1, h2⟩
     obtain ⟨i, hi, rfl⟩ := xS.1 h1
     exact ⟨i, hi, h2⟩
   obtain ⟨y, hy, hy2, hy3⟩ := H (fun s => s ∉ gone) hm
   refine hx y (by rw [List.mem_range'_1]; omega) ?_
   unfold F4
   rw [Bool.and_eq_true, Bool.not_eq_true', Iz, IA]
   refine ⟨hy2, fun q hq => ?_⟩
   by_cases hg : (gB bs q).f0 ∈ gone
   ·exact .inr (.inl hg)
   ·rcases hy3 q hq hg with h | h
    ·exact .inl h
    ·exact .inr (.inr h)
theorem nI {ts : List ByteArray} {bs : List IB} : nT ts bs = true ↔ q8 ts bs = true ∧ X3 bs := by
 unfold nT P7
 cases hb : q8 ts bs with
 | false => simp
 | true =>
  rw [if_pos rfl]
  constructor
  ·intro h
   refine ⟨rfl, fun S hS => Lu (Iy bs.length [] List.nodup_nil (by simp) (by simp) h) S hS (by simp)⟩
  ·rintro ⟨_, h⟩
   exact Im (rY hb) h _ _ (by simp)
theorem uH {l all : List ByteArray} : mM l all = true ↔ (∀ s, s ∈ l → s ∈ all) ∧ AscS l := by
 constructor
 ·intro h
  refine ⟨fun s hs => ?_, VV h⟩
  unfold mM at h
  obtain ⟨i, hi, rfl⟩ := List.getElem_of_mem hs
  have q := (uA _ _ _).1 h i (by omega) hi
  unfold AR at q
  rw [Bool.and_eq_true, zZ, show gS l i = l[i] from getD_lt _ _ hi] at q
  exact q.1
 rintro ⟨h1, h2⟩
 unfold mM
 rw [uA]
 intro j _ hj
 unfold AR
 rw [Bool.and_eq_true, zZ, Bool.or_eq_true, decide_eq_true_eq, show gS l j = l[j] from getD_lt _ _ hj]
 refine ⟨h1 _ (List.getElem_mem hj), ?_⟩
 by_cases h0 : j = 0
 ·exact .inl h0
 refine .inr ?_
 rw [show gS l (j - 1) = l[j - 1] from getD_lt _ _ (by omega)]
 exact List.pairwise_iff_getElem.1 h2 (j - 1) j (by omega) hj (by omega)
structure Bk (ts : List ByteArray) (bs : List IB) : Prop where
  things : GG ts = true
  five : bs.length ≤ 5
  asc : Asc bs
  each : ∀ i, i < bs.length → wW (gB bs i).f0 = true ∧ mM (gB bs i).f2 ts = true ∧ mM (gB bs i).f1 (gB bs i).f2 = true
  free : ∀ i j, i < bs.length → j < bs.length → i ≠ j → nV (gB bs i).f1 (gB bs j).f1 = false
theorem zU {ts : List ByteArray} {bs : List IB} : q8 ts bs = true ↔ Bk ts bs := by
 constructor
 ·intro hb
  have ha := rY hb
  have hf := ET hb
  unfold q8 at hb
  rw [Bool.and_eq_true, Bool.and_eq_true, uA] at hb
  obtain ⟨h1, _, h3⟩ := hb
  have hall : ∀ j, j < bs.length → uL ts bs j = true ∧ yU bs j = true := fun j hj => by
   have := h3 j (by omega) hj; rwa [Bool.and_eq_true] at this
  refine ⟨h1, hf, ha, fun i hi => ?_, fun i j hi hj hij => ?_⟩
  ·have q := (hall i hi).1
   unfold uL at q
   simp only [Bool.and_eq_true] at q
   exact ⟨q.1, q.2.2.1, q.2.2.2⟩
  have low : ∀ i j, i < bs.length → j < i → nV (gB bs i).f1 (gB bs j).f1 = false := fun i j hi hj => by
   have q := (hall i hi).2
   unfold yU at q
   have := (uA _ _ _).1 q j (by omega) hj
   simpa using this
  by_cases h : j < i
  ·exact low i j hi h
  exact IR (low j i hj (by omega))
 rintro ⟨h1, h2, h3, h4, h5⟩
 unfold q8
 rw [Bool.and_eq_true, Bool.and_eq_true, uA, decide_eq_true_eq]
 refine ⟨h1, h2, fun j _ hj => ?_⟩
 obtain ⟨q1, q2, q3⟩ := h4 j hj
 rw [Bool.and_eq_true]
 constructor
 ·unfold uL
  simp only [Bool.and_eq_true, Bool.or_eq_true, decide_eq_true_eq]
  refine ⟨q1, ?_, q2, q3⟩
  by_cases h0 : j = 0
  ·exact .inl h0
  refine .inr ?_
  rw [CK hj, CK (show j - 1 < bs.length by omega)]
  exact List.pairwise_iff_getElem.1 h3 (j - 1) j (by omega) hj (by omega)
 unfold yU
 rw [uA]
 intro q _ hq
 rw [h5 j q hj (by omega) (by omega)]; rfl
theorem LG {bs : List IB} {i j : Nat} (x : IB) (hj : j < bs.length) : gB (bs.set i x) j = if i = j then x else gB bs j := by
 rw [CK (show j < (bs.set i x).length by rw [List.length_set]; exact hj), List.getElem_set, CK hj]
theorem Wj {bs : List IB} (ha : Asc bs) {i : Nat} {x : IB} (hx : x.f0 = (gB bs i).f0) (hi : i < bs.length) : Asc (bs.set i x) := by
 have hn : ∀ j, (hj : j < bs.length) → (gB (bs.set i x) j).f0 = (gB bs j).f0 := fun j hj => by
  rw [LG x hj]
  split
  ·rename_i e; subst e; exact hx
  ·rfl
 unfold Asc
 rw [List.pairwise_iff_getElem]
 intro a b h1 h2 hab
 rw [List.length_set] at h1 h2
 rw [← CK (bs := bs.set i x) (by rw [List.length_set]; exact h1), ← CK (bs := bs.set i x) (by rw [List.length_set]; exact h2), hn a h1, hn b h2, CK h1, CK h2]
 exact List.pairwise_iff_getElem.1 ha a b h1 h2 hab
theorem Qg {ts : List ByteArray} {bs : List IB} (h : Bk ts bs) {i : Nat} (hi : i < bs.length) {has needs : List ByteArray} (h1 : mM needs ts = true) (h2 : mM has needs = true)
  (h3 : ∀ j, j < bs.length → j ≠ i → nV has (gB bs j).f1 = false) : Bk ts (setN bs i has needs) := by
 obtain ⟨a1, a2, a3, a4, a5⟩ := h
 unfold setN
 refine ⟨a1, by rw [List.length_set]; exact a2, Wj a3 rfl hi, fun j hj => ?_, fun j k hj hk hjk => ?_⟩
 ·rw [List.length_set] at hj
  rw [LG _ hj]
  split
  ·exact ⟨(a4 i hi).1, h1, h2⟩
  exact a4 j hj
 rw [List.length_set] at hj hk
 rw [LG _ hj, LG _ hk]
 split
 ·rename_i e; subst e
  rw [if_neg hjk]
  exact h3 k hk (fun e => hjk e.symm)
 split
 ·rename_i e; subst e
  exact IR (h3 j hj hjk)
 exact a5 j k hj hk hjk
theorem Qf {ts : List ByteArray} {bs : List IB} (h : Bk ts bs) (i : Nat) : Bk ts (bs.eraseIdx i) := by
 obtain ⟨a1, a2, a3, a4, a5⟩ := h
 have hs : List.Sublist (bs.eraseIdx i) bs := List.eraseIdx_sublist ..
 have hl := hs.length_le
 have hat : ∀ j, j < (bs.eraseIdx i).length → ∃ k, k < bs.length ∧ gB (bs.eraseIdx i) j = gB bs k := fun j hj => by
  obtain ⟨k, hk, e⟩ := P6 (hs.subset (AP hj)); exact ⟨k, hk, e.symm⟩
 have ha : Asc (bs.eraseIdx i) := List.Pairwise.sublist hs a3
 refine ⟨a1, by omega, ha, fun j hj => ?_, fun j k hj hk hjk => ?_⟩
 ·obtain ⟨q, hq, e⟩ := hat j hj
  rw [e]; exact a4 q hq
 obtain ⟨q, hq, e⟩ := hat j hj
 obtain ⟨p, hp, e2⟩ := hat k hk
 rw [e, e2]
 refine a5 q p hq hp fun h => hjk ?_
 exact FO ha hj hk (by rw [e, e2, h])
theorem NL {bs : List IB} {x b : IB} : b ∈ insB bs x ↔ b = x ∨ b ∈ bs := by
 have e : bs = bs.take (insK bs x.f0) ++ bs.drop (insK bs x.f0) := (List.take_append_drop ..).symm
 unfold insB
 rw [List.mem_append, List.mem_cons]
 constructor
 ·rintro (h | h | h)
  ·exact .inr (List.mem_of_mem_take h)
  ·exact .inl h
  exact .inr (List.mem_of_mem_drop h)
 rintro (h | h)
 ·exact .inr (.inl h)
 rw [e, List.mem_append] at h
 rcases h with h | h
 ·exact .inl h
 exact .inr (.inr h)
theorem Sg {bs : List IB} {x : IB} : (insB bs x).length = bs.length + 1 := by
 have e := congrArg List.length (List.take_append_drop (insK bs x.f0) bs)
 unfold insB
 rw [List.length_append] at e
 rw [List.length_append, List.length_cons]; omega
theorem lg {ts : List ByteArray} {bs : List IB} (h : Bk ts bs) {n : ByteArray} {needs : List ByteArray} (hn : wW n = true) (h1 : mM needs ts = true) (h2 : ∀ b ∈ bs, b.f0.toList ≠ n.toList) (hl : bs.length < 5) : Bk ts (insB bs ⟨n, [], needs⟩) := by
 obtain ⟨a1, a2, a3, a4, a5⟩ := h
 have ha : Asc (insB bs ⟨n, [], needs⟩) := Bq a3 h2
 have hat : ∀ j, j < (insB bs ⟨n, [], needs⟩).length → gB (insB bs ⟨n, [], needs⟩) j = ⟨n, [], needs⟩ ∨ ∃ k, k < bs.length ∧ gB (insB bs ⟨n, [], needs⟩) j = gB bs k := fun j hj => by
  rcases NL.1 (AP hj) with h | h
  ·exact .inl h
  ·obtain ⟨k, hk, e⟩ := P6 h; exact .inr ⟨k, hk, e.symm⟩
 refine ⟨a1, by rw [Sg]; omega, ha, fun j hj => ?_, fun j k hj hk hjk => ?_⟩
 ·rcases hat j hj with e | ⟨q, hq, e⟩
  ·rw [e]; exact ⟨hn, h1, uH.2 ⟨by simp, List.Pairwise.nil⟩⟩
  rw [e]; exact a4 q hq
 rcases hat j hj with e | ⟨q, hq, e⟩
 ·rw [e]; exact uJ.2 (by simp)
 rcases hat k hk with e2 | ⟨p, hp, e2⟩
 ·rw [e2]; exact IR (uJ.2 (by simp))
 rw [e, e2]
 refine a5 q p hq hp fun h => hjk ?_
 exact FO ha hj hk (by rw [e, e2, h])
theorem TA {cs bs : List IB} (ha : Asc bs) (hs : ∀ i, i < cs.length → ∃ j, j < bs.length ∧ (gB cs i).f0 = (gB bs j).f0 ∧ (∀ s, s ∈ (gB cs i).f1 → s ∈ (gB bs j).f1) ∧ ∀ s, s ∈ (gB cs i).f2 → s ∈ (gB bs j).f2)
  (ha2 : Asc cs) (H : X3 bs) : X3 cs := by
 intro S ⟨i, hi, hS⟩
 obtain ⟨j, hj, e, _, _⟩ := hs i hi
 obtain ⟨y, hy, ⟨hy1, hy2⟩, hy3⟩ := H (fun n => S n ∧ n ∈ yB cs) ⟨j, hj, e ▸ hS, e ▸ xS.2 ⟨i, hi, rfl⟩⟩
 obtain ⟨q, hq, e2⟩ := xS.1 hy2
 obtain ⟨p, hp, e3, s1, s2⟩ := hs q hq
 have hpy : p = y := FO ha hp hy (by rw [← e3, e2])
 subst hpy
 refine ⟨q, hq, e2 ▸ hy1, fun x hx hxs => ?_⟩
 obtain ⟨x2, Nh, e4, t1, t2⟩ := hs x hx
 rcases hy3 x2 Nh ⟨e4 ▸ hxs, e4 ▸ xS.2 ⟨x, hx, rfl⟩⟩ with h | h
 ·subst h; exact .inl (FO ha2 hx hq (by rw [e4, ← e3]))
 exact .inr (U2 h t1 s2)
theorem Me {ts : List ByteArray} {bs : List IB} {i : Nat} {needs : List ByteArray} (hi : i < bs.length) (hn : mM needs (gB bs i).f2 = true) (hb : q8 ts bs = true) :
  q8 ts (setN bs i ((gB bs i).f1.filter (hasS needs)) needs) = true := by
 have h := zU.1 hb
 obtain ⟨q1, q2, q3⟩ := h.each i hi
 rw [uH] at hn q2 q3
 refine zU.2 (Qg h hi (uH.2 ⟨fun s hs => q2.1 s (hn.1 s hs), hn.2⟩) (uH.2 ⟨fun s hs => ?_, List.Pairwise.filter _ q3.2⟩) fun j hj hji => U2 (h.free i j hi hj (fun e => hji e.symm)) (fun s hs => (List.mem_filter.1 hs).1) fun s hs => hs)
 exact zZ.1 (List.mem_filter.1 hs).2
theorem Mg {ts : List ByteArray} {bs : List IB} {i : Nat} {needs : List ByteArray} (hi : i < bs.length) (hn : mM needs (gB bs i).f2 = true) (hb : nT ts bs = true) :
  nT ts (setN bs i ((gB bs i).f1.filter (hasS needs)) needs) = true := by
 obtain ⟨hb, hd⟩ := nI.1 hb
 have hk := Me hi hn hb
 rw [nI]
 refine ⟨hk, TA (rY hb) (fun j hj => ?_) (rY hk) hd⟩
 unfold setN at hj ⊢
 rw [List.length_set] at hj
 rw [LG _ hj]
 split
 ·rename_i e; subst e
  exact ⟨i, hi, rfl, fun s hs => (List.mem_filter.1 hs).1, (uH.1 hn).1⟩
 exact ⟨j, hj, rfl, fun s hs => hs, fun s hs => hs⟩
theorem Fu {ts : List ByteArray} {bs : List IB} (i : Nat) (hb : q8 ts bs = true) : q8 ts (bs.eraseIdx i) = true := zU.2 (Qf (zU.1 hb) i)
theorem TN {ts : List ByteArray} {bs : List IB} (i : Nat) (hb : nT ts bs = true) : nT ts (bs.eraseIdx i) = true := by
 obtain ⟨hb, hd⟩ := nI.1 hb
 have hk := Fu i hb
 rw [nI]
 refine ⟨hk, TA (rY hb) (fun j hj => ?_) (rY hk) hd⟩
 obtain ⟨k, hk2, e⟩ := P6 ((List.eraseIdx_sublist bs i).subset (AP hj))
 exact ⟨k, hk2, by rw [e], fun s hs => by rw [e]; exact hs, fun s hs => by rw [e]; exact hs⟩
theorem Ez {ts : List ByteArray} {bs : List IB} {n : ByteArray} {needs : List ByteArray} (hb : q8 ts bs = true) (hn : wW n = true) (h1 : mM needs ts = true) (h2 : ¬ 0 ≤ atI bs n) (hl : ¬ 5 ≤ bs.length) : q8 ts (insB bs ⟨n, [], needs⟩) = true :=
  zU.2 (lg (zU.1 hb) hn h1 (X9 h2) (by omega))
theorem Fe {ts : List ByteArray} {bs : List IB} {n : ByteArray} {needs : List ByteArray} (hb : q8 ts bs = true) (hn : wW n = true) (h1 : mM needs ts = true) (h2 : ¬ 0 ≤ atI bs n) (hl : ¬ 5 ≤ bs.length) : nT ts (insB bs ⟨n, [], needs⟩) = nT ts bs := by
 have hk := Ez hb hn h1 h2 hl
 have ha := rY hk
 have old : ∀ k, k < bs.length → ∃ j, j < (insB bs ⟨n, [], needs⟩).length ∧ gB (insB bs ⟨n, [], needs⟩) j = gB bs k := fun k hk2 => P6 (NL.2 (.inr (AP hk2)))
 rw [Bool.eq_iff_iff, nI, nI]
 constructor
 ·rintro ⟨_, hd⟩
  refine ⟨hb, TA ha (fun k hk2 => ?_) (rY hb) hd⟩
  obtain ⟨j, hj, e⟩ := old k hk2
  exact ⟨j, hj, by rw [e], fun s hs => by rw [e]; exact hs, fun s hs => by rw [e]; exact hs⟩
 rintro ⟨_, hd⟩
 refine ⟨hk, fun S ⟨i, hi, hS⟩ => ?_⟩
 have hat : ∀ j, j < (insB bs ⟨n, [], needs⟩).length → gB (insB bs ⟨n, [], needs⟩) j = ⟨n, [], needs⟩ ∨ ∃ k, k < bs.length ∧ gB (insB bs ⟨n, [], needs⟩) j = gB bs k := fun j hj => by
  rcases NL.1 (AP hj) with h | h
  ·exact .inl h
  ·obtain ⟨k, hk, e⟩ := P6 h; exact .inr ⟨k, hk, e.symm⟩
 by_cases hc : ∃ k, k < bs.length ∧ S (gB bs k).f0
 ·obtain ⟨y, hy, hy2, hy3⟩ := hd S hc
  obtain ⟨j, hj, e⟩ := old y hy
  refine ⟨j, hj, by rw [e]; exact hy2, fun x hx hxs => ?_⟩
  rcases hat x hx with e2 | ⟨k, hk2, e2⟩
  ·rw [e2]; exact .inr (uJ.2 (by simp))
  rw [e2] at hxs ⊢
  rcases hy3 k hk2 hxs with h | h
  ·exact .inl (FO ha hx hj (by rw [e2, e, h]))
  rw [e]; exact .inr h
 refine ⟨i, hi, hS, fun x hx hxs => ?_⟩
 rcases hat x hx with e2 | ⟨k, hk2, e2⟩
 ·rw [e2]; exact .inr (uJ.2 (by simp))
 exact absurd ⟨k, hk2, e2 ▸ hxs⟩ hc
theorem Lr {ts : List ByteArray} {bs : List IB} {i : Nat} {things : List ByteArray} (hi : i < bs.length) (hn : mM things (gB bs i).f2 = true) (ht : M3 bs i things = false) (hb : q8 ts bs = true) : q8 ts (r9 bs i things) = true := by
 have h := zU.1 hb
 obtain ⟨q1, q2, q3⟩ := h.each i hi
 rw [uH] at hn q3
 have hfree : ∀ j, j < bs.length → j ≠ i → nV (gB bs j).f1 things = false := fun j hj hji => by
  have := mt (SS (yL bs i things) bs.length 0).2 (by unfold M3 at ht; rw [ht]; simp)
  cases hc : nV (gB bs j).f1 things with
  | false => rfl
  | true => exact absurd ⟨j, by omega, hj, by unfold yL; rw [hc, decide_eq_false hji]; rfl⟩ this
 refine zU.2 (Qg h hi q2 (uH.2 ⟨fun s hs => ?_, LQ _ _ q3.2⟩) fun j hj hji => uJ.2 fun s hs Fk => ?_)
 ·rcases (G6 s things _).1 hs with h | h
  ·exact q3.1 s h
  exact hn.1 s h
 rcases (G6 s things _).1 hs with h2 | h2
 ·exact uJ.1 (h.free i j hi hj (fun e => hji e.symm)) s h2 Fk
 exact uJ.1 (hfree j hj hji) s Fk h2
theorem Lt {ts : List ByteArray} {bs : List IB} {i : Nat} {things : List ByteArray} (hi : i < bs.length) (hn : mM things (gB bs i).f2 = true) (ht : M3 bs i things = false) (hc : canB bs i [] = true) (hb : nT ts bs = true) : nT ts (r9 bs i things) = true := by
 obtain ⟨hb, hd⟩ := nI.1 hb
 have hk := Lr hi hn ht hb
 have ha := rY hb
 have hlen : (r9 bs i things).length = bs.length := by unfold r9 setN; rw [List.length_set]
 have hat : ∀ j, j < bs.length → gB (r9 bs i things) j = if i = j then ⟨(gB bs i).f0, pE (gB bs i).f1 things, (gB bs i).f2⟩ else gB bs j := fun j hj => LG _ hj
 have hname : ∀ j, j < bs.length → (gB (r9 bs i things) j).f0 = (gB bs j).f0 := fun j hj => by
  rw [hat j hj]; split
  ·rename_i e; subst e; rfl
  ·rfl
 have hneed : ∀ j, j < bs.length → (gB (r9 bs i things) j).f2 = (gB bs j).f2 := fun j hj => by
  rw [hat j hj]; split
  ·rename_i e; subst e; rfl
  ·rfl
 have hhas : ∀ j, j < bs.length → j ≠ i → (gB (r9 bs i things) j).f1 = (gB bs j).f1 := fun j hj h => by
  rw [hat j hj, if_neg (fun e => h e.symm)]
 refine nI.2 ⟨hk, fun S ⟨j, hj, hS⟩ => ?_⟩
 rw [hlen] at hj
 by_cases hs : S (gB bs i).f0
 ·refine ⟨i, by omega, by rw [hname i hi]; exact hs, fun x hx hxs => ?_⟩
  rw [hlen] at hx
  by_cases e : x = i
  ·exact .inl e
  rcases IA.1 hc x hx with h | h | h
  ·exact .inl h
  ·simp at h
  rw [hhas x hx e, hneed i hi]; exact .inr h
 obtain ⟨y, hy, hy2, hy3⟩ := hd S ⟨j, hj, by rw [← hname j hj]; exact hS⟩
 refine ⟨y, by omega, by rw [hname y hy]; exact hy2, fun x hx hxs => ?_⟩
 rw [hlen] at hx
 rw [hname x hx] at hxs
 have e : x ≠ i := fun e => hs (e ▸ hxs)
 rw [hhas x hx e, hneed y hy]
 exact hy3 x hx hxs
theorem Gd.weak {n m : Nat} {ts : List ByteArray} {bs : List IB} (h : Gd n ts bs) (hn : n ≤ m) : Gd m ts bs :=
  ⟨h.1, fun b hb => by have := h.2.1 b hb; omega, by have := h.2.2; omega⟩
theorem Gd.nil (n : Nat) : Gd n [] [] := ⟨by simp, by simp, by simp [kJ]⟩
theorem Au {n : Nat} {ts : List ByteArray} {bs : List IB} (h : Gd n ts bs) (nm : ByteArray) {l : List ByteArray} (hl : l.length ≤ 6 + n) (hn : n ≤ 90) : Gd (n + 1) (wQ ts bs nm l).1 (wQ ts bs nm l).2.1 := by
 have h1 : Gd (n + 1) ts bs := h.weak (by omega)
 have h2 : Gd (n + 1) ts (insB bs ⟨nm, [], l⟩) := by
  refine ⟨h1.1, fun b hb => ?_, ?_⟩
  ·rcases NL.1 hb with e | e
   ·subst e; dsimp only; omega
   ·exact h1.2.1 b e
  ·have := h.2.2
   rw [Fq]; dsimp only; rw [List.length_nil]; omega
 unfold wQ
 repeat' split
 all_goals first | exact h1 | exact h2 | exact Gd.nil _
theorem Jz {bs : List IB} {i : Nat} {x b : IB} (h : b ∈ bs.set i x) : b = x ∨ b ∈ bs := by
 rcases List.mem_or_eq_of_mem_set h with e | e
 ·exact .inr e
 exact .inl e
theorem Jt {n : Nat} {ts : List ByteArray} {bs : List IB} (h : Gd n ts bs) (nm : ByteArray) {l : List ByteArray} (hl : l.length ≤ 6 + n) (hn : n ≤ 90) : Gd (n + 1) (BF ts bs nm l).1 (BF ts bs nm l).2.1 := by
 have h1 : Gd (n + 1) ts bs := h.weak (by omega)
 unfold BF
 split
 ·split
  ·exact h1
  rename_i hc
  obtain ⟨i, e, hi⟩ := AJ bs nm hc
  rw [e, Int.toNat_natCast]
  split
  ·refine ⟨h1.1, fun b hb => ?_, ?_⟩
   ·rcases Jz hb with e | e
    ·subst e; dsimp only; omega
    exact h1.2.1 b e
   have := h.2.2
   have := Gl hi (hasS l) l
   dsimp only; omega
  exact h1
 exact Gd.nil _
theorem Pz {n : Nat} {ts : List ByteArray} {bs : List IB} (h : Gd n ts bs) (nm : ByteArray) {l : List ByteArray} (hl : l.length ≤ 6 + n) (hn : n ≤ 90) : Gd (n + 1) (askB ts bs nm l).1 (askB ts bs nm l).2.1 := by
 have h1 : Gd (n + 1) ts bs := h.weak (by omega)
 unfold askB
 split
 ·split
  ·exact h1
  rename_i hc
  obtain ⟨i, e, hi⟩ := AJ bs nm hc
  rw [e, Int.toNat_natCast]
  split
  ·split
   ·exact h1
   split
   ·exact h1
   refine ⟨h1.1, fun b hb => ?_, ?_⟩
   ·rcases Jz hb with e | e
    ·subst e; exact h1.2.1 (gB bs i) (AP hi)
    exact h1.2.1 b e
   have := h.2.2
   have := Iw hi l
   dsimp only; omega
  exact h1
 exact Gd.nil _
theorem Cf {n : Nat} {ts : List ByteArray} {bs : List IB} (h : Gd n ts bs) (nm : ByteArray) : Gd (n + 1) (uO ts bs nm).1 (uO ts bs nm).2.1 := by
 have h1 : Gd (n + 1) ts bs := h.weak (by omega)
 unfold uO
 split
 ·split
  ·exact h1
  refine ⟨h1.1, fun b hb => h1.2.1 b ((List.eraseIdx_sublist bs _).subset hb), ?_⟩
  have := DZ bs (atI bs nm).toNat
  have := h1.2.2
  dsimp only; omega
 exact Gd.nil _
theorem Gd.sz {n : Nat} {ts : List ByteArray} {bs : List IB} (h : Gd n ts bs) (hn : n ≤ 90) : ts.length + kJ bs ≤ 1048576 := by
 have := h.1; have := h.2.2; omega
theorem Tt {n : Nat} {ts : List ByteArray} {bs : List IB} (h : Gd n ts bs) (hn : n ≤ 90) (c : Int) (nm : ByteArray) {l : List ByteArray} (hl : l.length ≤ 6 + n) : Tot (fun k => vQ.f k ts bs c nm l) (fun r => Gd (n + 1) r.1 r.2) := by
 have hz := h.sz hn
 unfold vQ.f
 refine Tot.prop (fun _ => Tot.Q3 (CW ts bs nm l hz (by omega)) (Tot.ret (Au h nm hl hn))) (fun _ => Tot.prop (fun _ => Tot.Q3 (FC ts bs nm l hz (by omega)) (Tot.ret (Pz h nm hl hn))) (fun _ => Tot.prop (fun _ => Tot.Q3 (DW ts bs nm l hz (by omega)) (Tot.ret (Jt h nm hl hn))) (fun _ => Tot.Q3 (CX ts bs nm (yC hz)) (Tot.ret (Cf h nm)))))
theorem Sz {l : List Int} (h : ∀ x ∈ l, (Lit.int .u8 x).wf = true) : ∃ s, Bs s ∧ vP.f l = some (s, 0) := by
 have hb : Bs l := fun x hx => by
  have := h x hx
  simp only [Lit.wf, Bool.and_eq_true, decide_eq_true_eq] at this
  exact ⟨this.1, this.2⟩
 unfold vP.f
 by_cases hc : (l.length : Int) > 2000
 ·rw [if_pos hc, if_pos (by omega)]
  exact ⟨_, fun x hx => hb x (List.mem_of_mem_take hx), rfl⟩
 rw [if_neg hc]; exact ⟨l, hb, rfl⟩
theorem IG {P : Nat → Bool} {n j : Nat} : j ∈ BI P n 0 ↔ j < n ∧ P j = true := by
 unfold BI; rw [List.mem_filter, List.mem_range'_1]
 constructor
 ·rintro ⟨h1, h2⟩; exact ⟨by omega, h2⟩
 rintro ⟨h1, h2⟩; exact ⟨by omega, h2⟩
theorem Mh {ts : List ByteArray} {bs : List IB} (hb : q8 ts bs = true) {i : Nat} (hi : i < bs.length) : hasS (vM ts bs) (gB bs i).f0 = canB bs i [] := by
 have ha := rY hb
 rw [Bool.eq_iff_iff, zZ]
 unfold vM CR
 rw [if_pos hb, List.mem_map]
 constructor
 ·rintro ⟨q, hq, e⟩
  obtain ⟨h1, h2⟩ := IG.1 hq
  rw [FO ha h1 hi e] at h2; exact h2
 intro h; exact ⟨i, IG.2 ⟨hi, h⟩, rfl⟩
theorem ZA {ts : List ByteArray} {bs : List IB} (h : LZ ts bs = true) : nT ts bs = false := by
 cases hs : nT ts bs with
 | false => rfl
 | true =>
  exfalso
  obtain ⟨hb, hd⟩ := nI.1 hs
  unfold LZ at h
  simp only [Bool.and_eq_true, decide_eq_true_eq, List.isEmpty_iff] at h
  obtain ⟨_, h1, h2⟩ := h
  obtain ⟨y, hy, _, hy3⟩ := hd (fun _ => True) ⟨0, h1, trivial⟩
  have hc : canB bs y [] = true := IA.2 fun q hq => by
   rcases hy3 q hq trivial with h | h
   ·exact .inl h
   ·exact .inr (.inr h)
  rw [← Mh hb hy, h2] at hc
  simp [hasS] at hc
theorem Lp {ts : List ByteArray} {bs : List IB} (h : nT ts bs = true) (n : ByteArray) (l : List ByteArray) : nT (wQ ts bs n l).1 (wQ ts bs n l).2.1 = true ∧ ((wQ ts bs n l).2.2 = 0 ∨ (wQ ts bs n l).1 = ts ∧ (wQ ts bs n l).2.1 = bs) := by
 unfold wQ
 have hb := (nI.1 h).1
 rw [if_pos hb]
 split
 ·rename_i h1
  split
  ·rename_i h2
   split
   ·exact ⟨h, .inr ⟨rfl, rfl⟩⟩
   rename_i h3
   split
   ·exact ⟨h, .inr ⟨rfl, rfl⟩⟩
   rename_i h4
   exact ⟨by rw [← h]; exact Fe hb h1 h2 h3 h4, .inl rfl⟩
  exact ⟨h, .inr ⟨rfl, rfl⟩⟩
 exact ⟨h, .inr ⟨rfl, rfl⟩⟩
theorem Sm {ts : List ByteArray} {bs : List IB} (h : nT ts bs = true) (n : ByteArray) (l : List ByteArray) : nT (BF ts bs n l).1 (BF ts bs n l).2.1 = true ∧ ((BF ts bs n l).2.2 = 0 ∨ (BF ts bs n l).1 = ts ∧ (BF ts bs n l).2.1 = bs) := by
 unfold BF
 have hb := (nI.1 h).1
 rw [if_pos hb]
 split
 ·exact ⟨h, .inr ⟨rfl, rfl⟩⟩
 rename_i hc
 obtain ⟨i, e, hi⟩ := AJ bs n hc
 rw [e, Int.toNat_natCast]
 split
 ·rename_i hn
  exact ⟨Mg hi hn h, .inl rfl⟩
 exact ⟨h, .inr ⟨rfl, rfl⟩⟩
theorem Mc {ts : List ByteArray} {bs : List IB} (h : nT ts bs = true) (n : ByteArray) : nT (uO ts bs n).1 (uO ts bs n).2.1 = true ∧ ((uO ts bs n).2.2 = 0 ∨ (uO ts bs n).1 = ts ∧ (uO ts bs n).2.1 = bs) := by
 unfold uO
 have hb := (nI.1 h).1
 rw [if_pos hb]
 split
 ·exact ⟨h, .inr ⟨rfl, rfl⟩⟩
 exact ⟨TN _ h, .inl rfl⟩
theorem Wl {ts : List ByteArray} {bs : List IB} (h : nT ts bs = true) (n : ByteArray) (l : List ByteArray) : nT (askB ts bs n l).1 (askB ts bs n l).2.1 = true ∧ ((askB ts bs n l).2.2 = 0 ∨ (askB ts bs n l).1 = ts ∧ (askB ts bs n l).2.1 = bs) := by
 unfold askB
 have hb := (nI.1 h).1
 rw [if_pos hb]
 split
 ·exact ⟨h, .inr ⟨rfl, rfl⟩⟩
 split
 ·split
  ·exact ⟨h, .inr ⟨rfl, rfl⟩⟩
  split
  ·exact ⟨h, .inr ⟨rfl, rfl⟩⟩
  rename_i hc
  rw [h, Bool.true_and] at hc
  exact ⟨by simpa using hc, .inl rfl⟩
 exact ⟨h, .inr ⟨rfl, rfl⟩⟩
theorem NZ {ts : List ByteArray} {bs : List IB} (h : nT ts bs = true) : LZ ts bs = false := by
 cases hs : LZ ts bs with
 | false => rfl
 | true => rw [ZA hs] at h; exact absurd h (by simp)
theorem Gj {ts : List ByteArray} {bs : List IB} (h : nT ts bs = true) (hn : 0 < bs.length) : ∃ i, i < bs.length ∧ canB bs i [] = true ∧ 0 < (vM ts bs).length ∧ gS (vM ts bs) 0 = (gB bs i).f0 := by
 have hb := (nI.1 h).1
 have hs := NZ h
 unfold LZ at hs
 rw [hb, decide_eq_true hn, Bool.true_and, Bool.true_and] at hs
 have hm : 0 < (vM ts bs).length := by
  cases hl : vM ts bs with
  | nil => rw [hl] at hs; exact absurd hs (by simp)
  | cons a l => simp
 have hg : gS (vM ts bs) 0 ∈ vM ts bs := by rw [show gS (vM ts bs) 0 = (vM ts bs)[0] from getD_lt _ _ hm]; exact List.getElem_mem hm
 have hg2 := hg
 unfold vM CR at hg2
 rw [if_pos hb, List.mem_map] at hg2
 obtain ⟨q, hq, e⟩ := hg2
 obtain ⟨h1, h2⟩ := IG.1 hq
 refine ⟨q, h1, h2, hm, ?_⟩
 unfold vM CR
 rw [if_pos hb]
 exact e.symm
def yV (bs : List IB) (n : ByteArray) : List ByteArray := (bs.map fun b => if b.f0 = n then b.f2.filter (fun s => !hasS b.f1 s) else []).flatten
theorem Ch {bs : List IB} (ha : Asc bs) {i : Nat} (hi : i < bs.length) : yV bs (gB bs i).f0 = (gB bs i).f2.filter fun s => !hasS (gB bs i).f1 s := by
 have none : ∀ l : List IB, (∀ b ∈ l, b.f0 ≠ (gB bs i).f0) → (l.map fun b => if b.f0 = (gB bs i).f0 then b.f2.filter (fun s => !hasS b.f1 s) else []).flatten = [] := by
  intro l hl
  induction l with
  | nil => rfl
  | cons b l ih =>
   rw [List.map_cons, List.flatten_cons, if_neg (hl b (List.mem_cons_self ..)), ih fun c hc => hl c (List.mem_cons_of_mem _ hc)]; rfl
 have e : bs = bs.take i ++ gB bs i :: bs.drop (i + 1) := by
  rw [CK hi, List.getElem_cons_drop hi, List.take_append_drop]
 unfold yV
 have hm : ∀ n, (bs.map fun b => if b.f0 = n then b.f2.filter (fun s => !hasS b.f1 s) else []) = ((bs.take i ++ gB bs i :: bs.drop (i + 1)).map fun b => if b.f0 = n then b.f2.filter (fun s => !hasS b.f1 s) else []) := fun n => congrArg _ e
 rw [hm, List.map_append, List.flatten_append, List.map_cons, List.flatten_cons, if_pos rfl, none _ fun b hb => ?_, none _ fun b hb => ?_, List.nil_append, List.append_nil]
 ·obtain ⟨j, hj, rfl⟩ := List.getElem_of_mem hb
  rw [List.length_drop] at hj
  rw [List.getElem_drop, ← CK (by omega)]
  intro h; have := FO ha (by omega) hi h; omega
 obtain ⟨j, hj, rfl⟩ := List.getElem_of_mem hb
 rw [List.length_take] at hj
 rw [List.getElem_take, ← CK (by omega)]
 intro h; have := FO ha (by omega) hi h; omega
theorem Sq {ts : List ByteArray} {bs : List IB} (h : nT ts bs = true) {i : Nat} (hi : i < bs.length) (hc : canB bs i [] = true) :
  askB ts bs (gB bs i).f0 (yV bs (gB bs i).f0) = (ts, r9 bs i (yV bs (gB bs i).f0), 0) ∧ nT ts (r9 bs i (yV bs (gB bs i).f0)) = true := by
 have hb := (nI.1 h).1
 have ha := rY hb
 have hk := zU.1 hb
 obtain ⟨_, q2, _⟩ := hk.each i hi
 rw [uH] at q2
 rw [Ch ha hi]
 have hn : mM ((gB bs i).f2.filter fun s => !hasS (gB bs i).f1 s) (gB bs i).f2 = true := uH.2 ⟨fun s hs => (List.mem_filter.1 hs).1, List.Pairwise.filter _ q2.2⟩
 have ht : M3 bs i ((gB bs i).f2.filter fun s => !hasS (gB bs i).f1 s) = false := by
  rw [← Bool.not_eq_true]
  intro ht
  unfold M3 at ht
  obtain ⟨q, _, hq, hp⟩ := (SS _ _ _).1 ht
  unfold yL at hp
  rw [Bool.and_eq_true, Bool.not_eq_true', decide_eq_false_iff_not, U1] at hp
  obtain ⟨hqi, s, h1, h2⟩ := hp
  rcases IA.1 hc q hq with h3 | h3 | h3
  ·exact hqi h3
  ·simp at h3
  ·exact uJ.1 h3 s h1 (List.mem_filter.1 h2).1
 have hs := Lt hi hn ht hc h
 refine ⟨?_, hs⟩
 unfold askB
 rw [if_pos hb, Qa ha hi, Int.toNat_natCast, if_neg (by omega), if_pos hn, ht, hs, h]
 rfl
theorem pg {ts : List ByteArray} {bs : List IB} (h : nT ts bs = true) {i : Nat} (hi : i < bs.length) : uO ts bs (gB bs i).f0 = (ts, bs.eraseIdx i, 0) := by
 have hb := (nI.1 h).1
 unfold uO
 rw [if_pos hb, Qa (rY hb) hi, if_neg (by omega), Int.toNat_natCast]
theorem Ls {bs : List IB} {i j : Nat} (hj : j < bs.length) (l : List ByteArray) : (gB (r9 bs i l) j).f0 = (gB bs j).f0 := by
 unfold r9 setN
 rw [LG _ hj]
 split
 ·rename_i e; subst e; rfl
 rfl
theorem Rp (bs : List IB) (i : Nat) (l : List ByteArray) : (r9 bs i l).length = bs.length := by unfold r9 setN; rw [List.length_set]
theorem Yx (l : List ByteArray) (s : ByteArray) (hl : l.length ≤ 9223372036854775807) : Ev (fun k => kE.f k l s) (hasS l s) := by
 unfold kE.f
 have E := Ev.YM (f := fun k i => kE.l0 k l s (i : Int)) (P := fun j => s.toList == (gS l j).toList) l.length
   (Ev.step (fun k => kE.l0.eq_2 _ _ _ k) (Ev.neg (by omega) (Ev.ret rfl)))
   (fun i r hi hp H => by
     refine Ev.step (fun k => kE.l0.eq_2 _ _ _ k) (Ev.pos (by omega) (Ev.pos (by omega) ?_))
     rw [mQ, jR hi hl]
     refine Ev.neg (fun e => ?_) H
     rw [e] at hp; simp at hp)
   (fun i hi hp => by
     refine Ev.step (fun k => kE.l0.eq_2 _ _ _ k) (Ev.pos (by omega) (Ev.pos (by omega) ?_))
     rw [mQ]
     exact Ev.pos (beq_iff_eq.1 hp).symm (Ev.ret rfl)) 0 (by omega)
 rw [show hasS l s = anyR (fun j => s.toList == (gS l j).toList) l.length 0 from (OT (fun x : ByteArray => s.toList == x.toList) ByteArray.empty l).symm]
 exact E
theorem PP (l : List ByteArray) (hl : l.length ≤ 9223372036854775807) : Ev (fun k => iE.f k l l) true := by
 unfold iE.f
 refine Ev.pos rfl ?_
 refine Ev.loop (f := fun k i => iE.l0 k l l (i : Int)) (val := fun _ => true) l.length ?_ ?_ 0 (by omega)
 ·exact Ev.step (fun k => iE.l0.eq_2 _ _ _ k) (Ev.neg (by omega) (Ev.ret rfl))
 intro i hi H
 refine Ev.step (fun k => iE.l0.eq_2 _ _ _ k) (Ev.pos (by omega) (Ev.pos (by omega) (Ev.pos (by omega) (Ev.pos rfl ?_))))
 rw [jR hi hl]; exact H
theorem Tot.then {α : Type} {g : Nat → Option α} {f : Nat → α → Option Bool} {P : α → Prop} (H : Tot g P) (K : ∀ x, P x → Ev (fun k => f k x) true) : Ev (fun k => (g k).bind fun x => f k x) true := by
 obtain ⟨x, h1, h2⟩ := H
 exact Ev.bind h1 (K x h2)
theorem Dc {ts : List ByteArray} {bs : List IB} (h : Bz ts bs) : Ev (fun k => eX.f k ts bs ts bs) true := by
 unfold eX.f
 refine Ev.bind (PP ts (by have := h.ts; omega)) (Ev.pos rfl ?_)
 refine Ev.step (fun k => eX.j0.eq_2 _ _ _ _ _ k) (Ev.neg (by simp) ?_)
 refine Ev.loop (f := fun k i => eX.l0 k (i : Int) ts bs ts bs) (val := fun _ => true) bs.length ?_ ?_ 0 (by omega)
 ·exact Ev.step (fun k => eX.l0.eq_2 _ _ _ _ _ k) (Ev.neg (by omega) (Ev.ret rfl))
 intro i hi H
 obtain ⟨h1, h2⟩ := h.at_ hi
 refine Ev.step (fun k => eX.l0.eq_2 _ _ _ _ _ k) (Ev.pos (by omega) (Ev.pos (by omega) (Ev.pos (by omega) (Ev.pos rfl ?_))))
 rw [iV, jR hi (by have := h.bs; omega)]
 exact Ev.bind (PP _ (by omega)) (Ev.pos rfl (Ev.bind (PP _ (by omega)) (Ev.pos rfl H)))
theorem De {ts : List ByteArray} {bs : List IB} (hz : ts.length + kJ bs ≤ 1048576) (n : ByteArray) : Ev (fun k => dY.f k ts bs n) (yV bs n) := by
 have hbz := yC hz
 have hw : ∀ i, i < bs.length → (gB bs i).f1.length + (gB bs i).f2.length ≤ 1048576 := fun i hi => by have := PO (AP hi); omega
 have row : ∀ i, i < bs.length → ∀ (d j : Nat) (out : List ByteArray) (r : List ByteArray), j + d = (gB bs i).f2.length → out.length + d ≤ 1048576 →
     (Ev (fun k => dY.l0 k n (out ++ (if (gB bs i).f0 = n then ((gB bs i).f2.drop j).filter (fun s => !hasS (gB bs i).f1 s) else [])) ((i + 1 : Nat) : Int) ts bs) r) → Ev (fun k => dY.l1 k n out (i : Int) (j : Int) ts bs) r := by
   intro i hi d
   have h12 := hw i hi
   induction d with
   | zero =>
     intro j out r hj ho H
     rw [List.drop_of_length_le (by omega), List.filter_nil, ite_self, List.append_nil] at H
     refine Ev.step (fun k => dY.l1.eq_2 _ _ _ _ _ _ k) (Ev.pos (by omega) (Ev.pos (by omega) ?_))
     rw [iV]
     refine Ev.neg (by omega) (Ev.step (fun k => dY.j2.eq_2 _ _ _ _ _ _ _ k) (Ev.neg (by simp) ?_))
     rw [jR hi (by have := hbz.bs; omega)]
     exact H
   | succ d ih =>
     intro j out r hj ho H
     refine Ev.step (fun k => dY.l1.eq_2 _ _ _ _ _ _ k) (Ev.pos (by omega) (Ev.pos (by omega) ?_))
     rw [iV]
     refine Ev.pos (by omega) (Ev.step (fun k => dY.j2.eq_2 _ _ _ _ _ _ _ k) ?_)
     by_cases hn : (gB bs i).f0 = n
     · rw [if_pos hn] at H
       refine Ev.pos (by rw [hn]; simp) (Ev.pos (by omega) (Ev.pos (by omega) (Ev.pos (by omega) ?_)))
       rw [iV]
       refine Ev.pos (by omega) ?_
       rw [mQ, jR (show j < (gB bs i).f2.length by omega) (by omega)]
       have hg : gS (gB bs i).f2 j = (gB bs i).f2[j]'(by omega) := getD_lt _ _ (by omega)
       rw [List.drop_eq_getElem_cons (by omega), List.filter_cons, ← hg] at H
       refine Ev.bind (Yx _ _ (by omega)) (Ev.test _ (fun h => ?_) (fun h => ?_))
       · rw [h] at H
         refine ih (j + 1) out r (by omega) (by omega) ?_
         rw [if_pos hn]; exact H
       · rw [h] at H
         refine Ev.pos (by omega) (ih (j + 1) _ r (by omega) (by rw [List.length_append, List.length_singleton]; omega) ?_)
         rw [if_pos hn, List.append_assoc]; exact H
     · rw [if_neg hn, List.append_nil] at H
       refine Ev.neg (fun e => hn (toList_inj.1 (beq_iff_eq.1 e))) ?_
       rw [jR hi (by have := hbz.bs; omega)]
       exact H
 unfold dY.f
 have go : ∀ (d i : Nat) (out : List ByteArray), i + d = bs.length → out.length + kJ (bs.drop i) ≤ 1048576 →
     Ev (fun k => dY.l0 k n out (i : Int) ts bs) (out ++ yV (bs.drop i) n) := by
   intro d
   induction d with
   | zero =>
     intro i out hi ho
     refine Ev.step (fun k => dY.l0.eq_2 _ _ _ _ _ k) (Ev.neg (by omega) (Ev.ret ?_))
     rw [List.drop_of_length_le (by omega)]; simp [yV]
   | succ d ih =>
     intro i out hi ho
     have hil : i < bs.length := by omega
     have hd : bs.drop i = gB bs i :: bs.drop (i + 1) := by rw [CK hil]; exact List.drop_eq_getElem_cons hil
     rw [hd, vR] at ho
     refine Ev.step (fun k => dY.l0.eq_2 _ _ _ _ _ k) (Ev.pos (by omega) ?_)
     refine row i hil _ 0 out _ (Nat.zero_add _) (by omega) ?_
     rw [List.drop_zero]
     have e : out ++ yV (bs.drop i) n = (out ++ (if (gB bs i).f0 = n then (gB bs i).f2.filter (fun s => !hasS (gB bs i).f1 s) else [])) ++ yV (bs.drop (i + 1)) n := by
       rw [hd, List.append_assoc]; simp only [yV, List.map_cons, List.flatten_cons]
     rw [e]
     refine ih (i + 1) _ (by omega) ?_
     rw [List.length_append]
     have : (if (gB bs i).f0 = n then (gB bs i).f2.filter (fun s => !hasS (gB bs i).f1 s) else []).length ≤ (gB bs i).f2.length := by
       split
       · exact List.length_filter_le _ _
       · exact Nat.zero_le _
     omega
 have := go bs.length 0 [] (by omega) (by rw [List.length_nil, List.drop_zero]; omega)
 rw [List.drop_zero, List.nil_append] at this
 exact this
theorem Ub {ts : List ByteArray} : ∀ (m : Nat) (bs : List IB), bs.length = m → nT ts bs = true → ts.length + kJ bs ≤ 500000 → Ev (fun k => dE.l1 k (m : Int) ts bs) true
 | 0, bs, hl, _, _ => Ev.step (fun k => dE.l1.eq_2 _ _ _ k) (Ev.neg (by omega) (Ev.ret (by rw [hl]; rfl)))
 | m + 1, bs, hl, hs, hz => by
  have hbz := yC (show ts.length + kJ bs ≤ 1048576 by omega)
  obtain ⟨i, hi, hc, hm, hg⟩ := Gj hs (by omega)
  obtain ⟨ha, Fk⟩ := Sq hs hi hc
  have hb := (nI.1 hs).1
  have hmis : (yV bs (gB bs i).f0).length ≤ 500000 := by
   rw [Ch (rY hb) hi]
   have := List.length_filter_le (fun s => !hasS (gB bs i).f1 s) (gB bs i).f2
   have := PO (AP hi); omega
  have hgl := Rp bs i (yV bs (gB bs i).f0)
  have hgz := RA hi (things := yV bs (gB bs i).f0) (show ts.length + kJ bs ≤ 1048576 by omega) (by omega)
  have hgo := pg Fk (i := i) (by omega)
  rw [Ls hi] at hgo
  refine Ev.step (fun k => dE.l1.eq_2 _ _ _ k) (Ev.pos (by omega) (Ev.bind (CP ts bs (by have := hbz.ts; omega) (by have := hbz.bs; omega) hbz.bok) (Ev.neg (by omega) (Ev.pos (by omega) ?_))))
  rw [show rdOf ByteArray.empty (vM ts bs) 0 = (gB bs i).f0 from by rw [← hg]; exact mQ (vM ts bs) 0]
  refine Ev.bind (De (by omega) _) (Ev.bind (F3 ts bs _ _ (by omega) (by omega)) ?_)
  rw [ha]
  refine Ev.bind (CO ts (r9 bs i (yV bs (gB bs i).f0)) _ hgz) ?_
  rw [hgo]
  refine Ev.pos rfl (Ev.pos rfl (Ev.bind (uW ts (r9 bs i (yV bs (gB bs i).f0)) (by have := hgz.ts; omega) (by have := hgz.bs; omega) hgz.bok) (Ev.pos Fk ?_)))
  have h3 : Ev (fun k => dE.l1 k (m : Int) ts ((r9 bs i (yV bs (gB bs i).f0)).eraseIdx i)) true := by
   refine Ub m _ (by rw [List.length_eraseIdx_of_lt (by omega)]; omega) (TN i Fk) ?_
   have e : (r9 bs i (yV bs (gB bs i).f0)).eraseIdx i = bs.eraseIdx i := by unfold r9 setN; rw [List.eraseIdx_set_eq]
   rw [e]
   have := DZ bs i; omega
  rw [show wrap64 (((m + 1 : Nat) : Int) - 1) = (m : Int) from by have := hbz.bs; rw [mE _ (by omega)]; omega]
  exact h3
theorem ZF {ts ts' : List ByteArray} {bs bs' : List IB} {c : Int} (ds : List S31) (i : Int) (hz : Bz ts bs) (hz' : Bz ts' bs') (hs : nT ts' bs' = true) (hc : c = 0 ∨ ts' = ts ∧ bs' = bs) (H : Ev (fun k => dE.l0 k ds (wrap64 (i + 1)) ts' bs') true) : Ev (fun k => dE.j1 k ds i c c ts bs ts' bs' ts' bs') true := by
 have hb := (nI.1 hs).1
 have t1 : ts'.length ≤ 9223372036854775807 := by have := hz'.ts; omega
 have t2 : bs'.length ≤ 9223372036854775807 := by have := hz'.bs; omega
 refine Ev.step (fun k => dE.j1.eq_2 _ _ _ _ _ _ _ _ _ _ k) (Ev.pos rfl (Ev.bind (Dc hz') (Ev.pos rfl (Ev.bind (kW ts' bs' t1 t2 hz'.bok) (Ev.pos hb (Ev.bind (uW ts' bs' t1 t2 hz'.bok) (Ev.pos hs (Ev.bind (LP ts' bs' t1 t2 hz'.bok) ?_))))))))
 rw [NZ hs]
 refine Ev.neg (by simp) (Ev.prop (fun _ => H) (fun h0 => ?_))
 rcases hc with h | ⟨rfl, rfl⟩
 ·exact absurd h h0
 exact Ev.bind (Dc hz) (Ev.pos rfl H)
theorem Ua (ds : List S31) (hd : ds.length ≤ 39) (hds : ∀ d ∈ ds, d.f2.length ≤ 46) : ∀ (e i : Nat) (ts : List ByteArray) (bs : List IB), i + e = ds.length → nT ts bs = true → Gd (50 + i) ts bs → Ev (fun k => dE.l0 k ds (i : Int) ts bs) true
  | 0, i, ts, bs, hi, hs, hg => by
    refine Ev.step (fun k => dE.l0.eq_2 _ _ _ _ k) (Ev.neg (by omega) (Ub bs.length bs rfl hs ?_))
    have := hg.1; have := hg.2.2; omega
  | e + 1, i, ts, bs, hi, hs, hg => by
    have hil : i < ds.length := by omega
    have hz := hg.sz (by omega)
    have hbz := yC hz
    have hr : dA ds (i : Int) = ds[i] := getD_lt _ _ hil
    have hl : ds[i].f2.length ≤ 46 := hds _ (List.getElem_mem hil)
    have next : ∀ (ts' : List ByteArray) (bs' : List IB), nT ts' bs' = true → Gd (50 + i + 1) ts' bs' → Ev (fun k => dE.l0 k ds (wrap64 ((i : Int) + 1)) ts' bs') true := fun ts' bs' h1 h2 => by
      rw [jR hil (by omega)]
      exact Ua ds hd hds e (i + 1) ts' bs' (by omega) h1 h2
    refine Ev.step (fun k => dE.l0.eq_2 _ _ _ _ k) (Ev.pos (by omega) (Ev.pos (by omega) ?_))
    rw [hr]
    refine Ev.prop (fun _ => Ev.bind (LJ ts bs _ _ hz (by omega)) (Ev.bind (CW ts bs _ _ hz (by omega)) ?_)) (fun _ => Ev.prop (fun _ => Ev.bind (F3 ts bs _ _ hz (by omega)) (Ev.bind (FC ts bs _ _ hz (by omega)) ?_)) (fun _ => Ev.prop (fun _ => Ev.bind (NK ts bs _ _ hz (by omega)) (Ev.bind (DW ts bs _ _ hz (by omega)) ?_)) (fun _ => Ev.bind (CO ts bs _ hbz) (Ev.bind (CX ts bs _ hbz) ?_))))
    · obtain ⟨h1, h2⟩ := Lp hs ds[i].f1 ds[i].f2
      exact ZF ds i hbz (Rh _ hz (by omega)) h1 h2 (next _ _ h1 (Au hg _ (by omega) (by omega)))
    · obtain ⟨h1, h2⟩ := Wl hs ds[i].f1 ds[i].f2
      exact ZF ds i hbz (kr _ hz (by omega)) h1 h2 (next _ _ h1 (Pz hg _ (by omega) (by omega)))
    · obtain ⟨h1, h2⟩ := Sm hs ds[i].f1 ds[i].f2
      exact ZF ds i hbz (Xt _ hz (by omega)) h1 h2 (next _ _ h1 (Jt hg _ (by omega) (by omega)))
    · obtain ⟨h1, h2⟩ := Mc hs ds[i].f1
      exact ZF ds i hbz (Sl _ hbz) h1 h2 (next _ _ h1 (Cf hg _))
theorem Ag {ts : List ByteArray} (h : ts.Sublist y8) : GG ts = true := by
 rw [← U5]
 have ha : AscS y8 := by
  unfold AscS y8
  simp only [bytesLess_eq, ← OV, bl]
  decide
 have hn : ∀ s ∈ y8, wW s = true := by
  unfold y8
  intro s hs
  simp only [List.mem_cons, List.not_mem_nil, or_false] at hs
  rcases hs with rfl | rfl | rfl | rfl | rfl <;> decide
 have hl : ts.length ≤ 5 := h.length_le
 rw [Bool.and_eq_true, Bool.and_eq_true, decide_eq_true_eq, uH, Bool.not_eq_true', List.any_eq_false]
 refine ⟨by omega, ⟨fun s hs => hs, List.Pairwise.sublist h ha⟩, fun s hs => ?_⟩
 rw [hn s (h.subset hs)]; simp
theorem La {ts : List ByteArray} (h : ts.Sublist y8) : nT ts [] = true :=
  nI.2 ⟨zU.2 ⟨Ag h, by simp, List.Pairwise.nil, fun i hi => absurd hi (by simp), fun i j hi => absurd hi (by simp)⟩, fun S ⟨i, hi, _⟩ => absurd hi (by simp)⟩
theorem Cy {l : List Int} (h : ∀ x ∈ l, (Lit.int .u8 x).wf = true) : Tot (fun k => fJ.f k l) (fun r => r.1.Sublist y8 ∧ r.2.1 = [] ∧ r.2.2.length ≤ 39 ∧ ∀ d ∈ r.2.2, d.f2.length ≤ 46) := by
 obtain ⟨s, Hs, e⟩ := Sz h
 unfold fJ.f
 refine Tot.Q3 (e ▸ Ev.ret rfl) (Tot.bind (Qb Hs (by omega) (by omega)) (fun x hx => ?_))
 obtain ⟨x1, x2, x3, x4⟩ := hx
 have hx5 : x.1.length ≤ 5 := x1.length_le
 refine Tot.bind (AB Hs (by omega) (by omega) 40) (fun y hy => ?_)
 obtain ⟨y1, y2, y3⟩ := hy
 have y2 := y2 (by omega)
 rw [y3]
 have go : ∀ (d n : Nat) (q : Int) (ts : List ByteArray) (cs : List IB) (out : List S31), Gd n ts cs → n + d ≤ 39 → 0 ≤ q → q + 100 * d ≤ 5000 → out.length ≤ n → (∀ d ∈ out, d.f2.length ≤ 46) → Tot (fun k => fJ.l0 k out (d : Int) s q x.1 ts cs) (fun r => r.1.Sublist y8 ∧ r.2.1 = [] ∧ r.2.2.length ≤ 39 ∧ ∀ d ∈ r.2.2, d.f2.length ≤ 46) := by
  intro d
  induction d with
  | zero =>
   intro n q ts cs out hg hn hq hq2 ho Rv
   exact Tot.step (fun k => fJ.l0.eq_2 _ _ _ _ _ _ _ k) (Tot.neg (by omega) (Tot.ret ⟨x1, rfl, by dsimp only; omega, Rv⟩))
  | succ d ih =>
   intro n q ts cs out hg hn hq hq2 ho Rv
   have hz := hg.sz (by omega)
   have hcl := PN cs
   refine Tot.step (fun k => fJ.l0.eq_2 _ _ _ _ _ _ _ k) (Tot.pos (by omega) (Tot.bind (Rb (m := 5 + n) Hs hq (by have := hg.1; omega) hg.2.1 (by omega) (by omega)) (fun y hy => ?_)))
   obtain ⟨y1, y2, y3⟩ := hy
   refine Tot.bind (Tt hg (by omega) _ _ (by omega)) (fun u hu => Tot.pos (by omega) ?_)
   rw [show wrap64 (((d + 1 : Nat) : Int) - 1) = (d : Int) from by rw [mE _ (by omega)]; omega]
   refine ih (n + 1) y.2.2.2 u.1 u.2 _ hu (by omega) (by omega) (by omega) (by rw [List.length_append, List.length_singleton]; omega) (fun b hb => ?_)
   rcases List.mem_append.1 hb with h | h
   ·exact Rv b h
   ·rw [List.mem_singleton.1 h]; dsimp only; omega
 obtain ⟨v, hv⟩ : ∃ v : Nat, y.1 = v := ⟨y.1.toNat, by omega⟩
 rw [hv]
 exact go v 0 _ x.1 [] [] ⟨hx5, by simp, by simp [kJ]⟩ (by omega) (by omega) (by omega) (by simp) (by simp)
theorem Dv : dE.Pure := by
 intro l _ _ hw
 refine Ev.rounds (g := fun k => dE.f k l) ?_
 unfold dE.f
 refine Ev.prop (fun _ => Ev.ret rfl) (fun _ => Tot.then (Cy hw) (fun x hx => ?_))
 obtain ⟨h1, h2, h3, h4⟩ := hx
 rw [h2]
 refine Ua x.2.2 h3 h4 x.2.2.length 0 _ _ (by omega) (La h1) ⟨h1.length_le, by simp, by simp [kJ]⟩
end Go.Proofs.YtaofjgnhapnndaaGreat.Q
