/- Texts that the row needs: words on memory and rows, the contracts of the functions it reaches, and the plain lemmas on what they compute. -/
import Derived.Test.YtaofjgnhapnndaaXkoah
set_option maxHeartbeats 8000000
set_option maxRecDepth 100000
open Go.Proofs.YtaofjgnhapnndaaFko
namespace Go.Proofs.Ytaofjgnhapnndaa.Q
open Go.RowKit Go.Proofs.YtaofjgnhapnndaaW.PrintWords Go.Proofs.YtaofjgnhapnndaaW.PrintLast Go.Proofs.YtaofjgnhapnndaaW.PrintMore
set_option linter.unusedVariables false
set_option linter.unusedSimpArgs false
theorem WF {w : World} {b o : Nat} {v : Value} (h : w.cell? ⟨b, o, none⟩ = some v) : w.setCell ⟨b, o, none⟩ v = w := by
 have e : (w.setCell ⟨b, o, none⟩ v).heap = w.heap := by
  have h' : (match w.heap[b]? with | some (.cells c _ _) => c[o]? | _ => none) = some v := h
  show w.heap.modify b (fun | .cells c elem frozen => .cells (c.setIfInBounds o v) elem frozen | o => o) = w.heap
  apply Array.ext_getElem?
  intro i
  rw [Array.getElem?_modify]
  by_cases hi : b = i
  ·subst hi
   rw [if_pos rfl]
   cases hb : w.heap[b]? with
   | none => rfl
   | some ob =>
    rw [hb] at h'
    cases ob with
    | cells c el fr =>
     have h2 : c[o]? = some v := h'
     have : c.setIfInBounds o v = c := by
      apply Array.ext_getElem?
      intro j
      rw [Array.getElem?_setIfInBounds]
      by_cases hj : o = j
      ·subst hj
       rw [if_pos rfl, h2]
       by_cases hh : o < c.size
       ·rw [if_pos hh]
       ·rw [Array.getElem?_eq_none (by omega)] at h2; cases h2
      ·rw [if_neg hj]
     show some (Obj.cells (c.setIfInBounds o v) el fr) = _
     rw [this]
    | _ => rfl
  ·rw [if_neg hi]
 show { w with heap := (w.setCell ⟨b, o, none⟩ v).heap } = w
 rw [e]
def eT.l0 : Nat → List ByteArray → Int → Int → List ByteArray → List (S56) → List ByteArray → List (S56) → List ByteArray → List (S56) → Option (List ByteArray × (List (S56)) × Int)
 | 0, _, _, _, _, _, _, _, _, _ => none
 | k + 1, d, b, c, g, h, i, j, e, a => if c < (d.length : Int) then (if 0 ≤ b then (if b < (a.length : Int) then (if 0 ≤ c then (if insF (rdOf ByteArray.empty d c) ((aC a b).f1) = true then (eT.l0 k d b (wrap64 (c + 1)) g h i j e a) else ((dF.f k ((aC a b).f1) (rdOf ByteArray.empty d c)).bind fun n => (eT.l0 k d b (wrap64 (c + 1)) g h i j e (a.set (b : Int).toNat (⟨(aC a b).f0, n, (aC a b).f2⟩ : S56))))) else (none)) else (none)) else (none)) else ((lJ.f k g h).bind fun o => (if o = true then ((lJ.f k e a).bind fun p => (if p = true then ((dG.f k e a).bind fun l => (some (l.1, l.2, 0))) else (some (i, j, 6)))) else ((dG.f k e a).bind fun m => (some (m.1, m.2, 0)))))
def eT.f (k : Nat) (aY : List ByteArray) (aI : List (S56)) (a1 : ByteArray) (l2 : List ByteArray) : Option (List ByteArray × (List (S56)) × Int) := (aH.f k aY aI).bind fun d => (if d = true then ((dG.f k aY aI).bind fun a => ((fT.f k aY aI a1).bind fun b => (if b < 0 then (some (a.1, a.2, 3)) else (if 0 ≤ b then (if b < (aI.length : Int) then ((dC.f k l2 ((aC aI b).f2)).bind fun e => (if e = true then ((iK.f k aY aI b l2).bind fun g => (if g = true then (some (a.1, a.2, 5)) else ((dG.f k aY aI).bind fun c => (eT.l0 k l2 b 0 aY aI a.1 a.2 c.1 c.2)))) else (some (a.1, a.2, 2)))) else (none)) else (none))))) else (some (([] : List ByteArray), ([] : List (S56)), 1)))
def eT.T15 : Bool × List (List Nat × List Nat) := (true, [([], []), ([0], [0]), ([], []), ([], []), ([3], [3]), ([], []), ([4, 5], [4, 5]), ([6], [6]), ([7], [7]), ([], []), ([], []), ([9, 10], [9, 10]), ([11], [11]), ([8, 12], [8, 12]), ([1, 2, 0, 1, 2, 3, 4, 5, 6, 7, 8, 9, 10, 11, 12, 13], [1, 2]), ([14, 0, 1, 2, 3, 4, 5, 6, 7, 8, 9, 10, 11, 12, 13], [14]), ([15, 13, 13, 0, 1, 2, 3, 4, 5, 6, 7, 8, 9, 10, 11, 12, 13], [13, 15])])
def eT.B15 : List Nat := [0, 1, 0, 0, 8, 0, 56, 120, 248, 0, 0, 1536, 3584, 8184, 16383, 32767, 65535]
theorem eT.YF : rtab .any (opsOf Try.f61 15) = eT.T15 := by kernel_rfl
theorem eT.P9 : kM eT.T15.2 eT.B15 = true := by kernel_rfl
theorem eT.calls (k : Nat) (eL : Option Addr) (eO : Nat) (aY : List ByteArray) (fJ : Option Addr) (eJ : Nat) (aI : List (S56)) (a1 : ByteArray) (A2 : Option Addr) (c2 : Nat) (l2 : List ByteArray) (r1 : List ByteArray) (r2 : List (S56)) (r3 : Int) (w : World) (iQ : Kd.C Kd.string w eL aY.length aY) (iO : aY.length ≤ eO) (iH : Kd.C k56 w fJ aI.length aI) (iP : aI.length ≤ eJ) (XW : Kd.C Kd.string w A2 l2.length l2) (XP : l2.length ≤ c2) (h : eT.f k aY aI a1 l2 = some (r1, r2, r3)) :
  Calls Try.prog 61 #[.agg #[.slice eL aY.length eO, .slice fJ aI.length eJ], .string a1, .slice A2 l2.length c2] w fun e w' => ∃ v0_ v1_ : Value, e = .returned (.tuple #[.agg #[v0_, v1_], .int .i64 r3]) ∧ Kd.R Kd.string 9 w' w.heap.size (fun k_ => (w.heap.size ≤ k_)) v0_ r1 ∧ Kd.N k56 56 w' w.heap.size (F10 w v0_) v1_ r2 ∧ Below w.heap.size w w' := by
 have hu31 := Try.underlying31
 obtain ⟨eQ, eP⟩ := mZ2 iQ iO
 obtain ⟨dO, fP⟩ := mZ2 iH iP
 obtain ⟨IX, D0⟩ := mZ2 XW XP
 clear iQ iO iH iP XW XP
 have HB := am (Below.refl w.heap.size w)
 unfold eT.f at h
 have H := h
 clear h
 obtain ⟨eK, A4, H⟩ := bd H
 refine tC H ?_ ?_ <;> clear H <;> intro c5 H <;> subst c5
 obtain ⟨⟨dI, e5⟩, A6, H⟩ := bd H
 dsimp only at H
 obtain ⟨dD, A7, H⟩ := bd H
 refine ic H ?_ ?_ <;> clear H <;> intro HY H
 obtain ⟨rfl, rfl, rfl⟩ := sZ3 H
 repeat clear H
 have JQ := trivial
 have Up := trivial
 rotate_left
 obtain ⟨S1, H⟩ := cN H
 obtain ⟨XA, H⟩ := cN H
 obtain ⟨DS, Xx, H⟩ := bd H
 refine tC H ?_ ?_ <;> clear H <;> intro bc H <;> subst bc
 obtain ⟨L0, Ca, H⟩ := bd H
 refine tC H ?_ ?_ <;> clear H <;> intro Vz H <;> subst Vz
 obtain ⟨rfl, rfl, rfl⟩ := sZ3 H
 repeat clear H
 have JQ := trivial
 have Cy := trivial
 have Jf := trivial
 have Uq := trivial
 rotate_left
 obtain ⟨⟨oS, wU⟩, xi, H⟩ := bd H
 dsimp only at H
 have H' := am H
 repeat clear H
 have JQ := trivial
 have Cy := trivial
 have Jf := trivial
 have RH := trivial
 rotate_left
 obtain ⟨rfl, rfl, rfl⟩ := sZ3 H
 repeat clear H
 have JQ := trivial
 have Cy := trivial
 have Ur := trivial
 rotate_left
 obtain ⟨rfl, rfl, rfl⟩ := sZ3 H
 repeat clear H
 have Us := trivial
 rotate_left
 all_goals
  go_enter Try.func61, Try.ntmps61
  go_wp2_with (first | ((with_reducible refine gD 3 ?_); refine bX 3 #[.slice eL aY.length eO, .slice fJ aI.length eJ] 31 ?_; intro aJ hg aIY hbox hb; have a3 := am hbox; have gH := am (u0 : w.heap.size ≤ aJ); have iE := gH; replace HB := bS eI hb; clear hb hbox hg) | ((with_reducible refine gD 6 ?_); refine bX 6 #[.slice none 0 0, .slice none 0 0] 31 ?_; intro aX hg aIZ hbox hb; have aK := am hbox; have mP := am (GG : w.heap.size ≤ aX); have nX := mP; replace HB := bS dS hb; have dP := nL aQ hg; have dQ := nG aQ hg; replace a3 := bB aQ hb; clear hb hbox hg; have aCV := nZ1 dP dQ; have py := cz2 a3) | ((with_reducible refine gC 22 ?_); revert JQ; intro JQ; refine cQ (some 13) Try.func22 (aH.calls k _ _ aY _ _ aI true _ (pB eQ) eP.1 (pB dO) fP.1 A4.out) ?_; rintro aJ0 hb; replace a3 := bB aQ hb; replace aK := bB cA hb; replace HB := bS nO hb; clear hb; have pz := cz2 a3) | ((with_reducible refine gC 89 ?_); revert JQ; intro JQ; refine cE (some 17) Try.func89 (dG.calls k _ _ aY _ _ aI dI e5 _ (pB eQ) eP.1 (pB dO) fP.1 A6.out) ?_; rintro e aJ1 ⟨JI, FP, rfl, hD, rM, hb⟩; refine ⟨_, rfl, ?_⟩; have eG := am (Kd.cO (Kd.jK (M := fun k_ => (w.heap.size ≤ k_)) hD (aG nO) (fun k_ h_ => h_)) (aG nO)); have fQ := am (Kd.l9 (Kd.aU (ok' := F12 w JI aJ aX) (Kd.S_N (Kd.rJ rM)) (fun k_ hk_ => ⟨(Nat.le_trans (aG nO) hk_.2.1), hk_.1, (fB aQ k_ hk_.2.1), (fB cA k_ hk_.2.1)⟩)) (aG nO)); replace a3 := bB aQ hb; replace aK := bB cA hb; replace HB := bS nO hb; clear hb hD rM) | ((with_reducible refine gD 8 ?_); revert JQ; intro JQ; refine bX 8 #[.slice none 0 0, .slice none 0 0] 31 ?_; intro cC hg aJ2 hbox hb; replace eG := RB tG hb; replace fQ := am (Kd.iI (Kd.pX wY cC (Nat.le_of_eq hg.symm)) hb); have bU := am hbox; have FS := am (Y7 : w.heap.size ≤ cC); have I5 := FS; replace HB := bS nO hb; have gI := nL aQ hg; have hZ := nG aQ hg; replace a3 := bB aQ hb; have gZ := nL cA hg; have j9 := nG cA hg; replace aK := bB cA hb; clear hb hbox hg; obtain ⟨oQ, oR, ct⟩ := Kd.bN eG.1; subst ct; have aCX := nZ2 hZ gI j9 gZ; have qa := cz2 bU; obtain ⟨zT, AK, cu⟩ := Kd.iJ fQ.1; subst cu; have qb := cz2 a3) | ((with_reducible refine gC 82 ?_); revert Up; intro Up; refine cQ (some 20) Try.func82 (fT.calls k _ _ aY _ _ aI a1 dD _ (Kd.bK eQ.1 gG) eP.1 (Kd.bK dO.1 gG) fP.1 A7.out) ?_; rintro aJ3 hb; replace eG := am (Kd.jY (by refine rR ?_; exact (Kd.aM (fR (fR (tR eG bU))) (fun _ h_ => h_.1))) hb); replace fQ := am (Kd.iI (by refine rN ?_; exact (Kd.aU (fN (fN (Kd.aU fQ.1 (fun k_ hk => (⟨hk, hk.2⟩ : _ ∧ k_ ≠ cC))))) (fun _ h_ => h_.1))) hb); replace a3 := am (dL (g := aJ) (o := .cells #[.slice eL aY.length eO, .slice fJ aI.length eJ] 31 (0, 0)) gy hb); replace aK := am (dL (g := aX) (o := .cells #[.slice none 0 0, .slice none 0 0] 31 (0, 0)) gz hb); replace bU := am (dL (g := cC) (o := .cells #[.slice oQ dI.length oR, .slice zT e5.length AK] 31 (0, 0)) (qP bU) hb); replace HB := bS gG hb; clear hb; have aCY := cz2 bU; have aCZ := cz2 aK) | ((with_reducible refine gC 82 ?_); revert Cy; intro Cy; refine cQ (some 20) Try.func82 (fT.calls k _ _ aY _ _ aI a1 dD _ (Kd.bK eQ.1 gG) eP.1 (Kd.bK dO.1 gG) fP.1 A7.out) ?_; rintro wZ hb; replace eG := am (Kd.jY (by refine rR ?_; exact (Kd.aM (fR (fR (tR eG bU))) (fun _ h_ => h_.1))) hb); replace fQ := am (Kd.iI (by refine rN ?_; exact (Kd.aU (fN (fN (Kd.aU fQ.1 (fun k_ hk => (⟨hk, hk.2⟩ : _ ∧ k_ ≠ cC))))) (fun _ h_ => h_.1))) hb); replace a3 := am (dL (g := aJ) (o := .cells #[.slice eL aY.length eO, .slice fJ aI.length eJ] 31 (0, 0)) gy hb); replace aK := am (dL (g := aX) (o := .cells #[.slice none 0 0, .slice none 0 0] 31 (0, 0)) gz hb); replace bU := am (dL (g := cC) (o := .cells #[.slice oQ dI.length oR, .slice zT e5.length AK] 31 (0, 0)) (qP bU) hb); replace HB := bS gG hb; clear hb; have qc := cz2 a3; obtain ⟨yQ, YR, ZT, YS, ZU, Ak, H4, EZ, F0, O3, TQ, z4, BN, Nt, Ob⟩ := aT56 dO HB dD; cases Ak) | ((with_reducible refine gC 71 ?_); revert Jf; intro Jf; refine cQ (some 31) Try.func71 (dC.calls k _ _ l2 _ _ ((aC aI dD).f2) true _ (pB IX) D0.1 (pB z4) BN.1 Xx.out) ?_; rintro w' ⟨nd, rfl⟩; (try (rw [ER wZ]; generalize hq_ : World.drewN wZ _ = wZ; have n0_ : aA (Kd.R Kd.string 9 wZ w.heap.size (fun k_ => (((w.heap.size ≤ k_)) ∧ True)) (.slice oQ dI.length oR) dI) := ⟨by rw [← hq_]; exact tG⟩; have n1_ : aA (Kd.N k56 56 wZ w.heap.size (fun k_ => ((((w.heap.size ≤ k_)) ∧ (some k_ ≠ (.slice oQ dI.length oR : Value).ownBlock ∧ (k_ ≠ aJ ∧ k_ ≠ aX))) ∧ k_ ≠ cC)) (.slice zT e5.length AK) e5) := ⟨by rw [← hq_]; exact wY⟩; have n2_ : aA (wZ.heap[aJ]? = some (.cells #[.slice eL aY.length eO, .slice (some yQ) aI.length eJ] 31 (0, 0))) := ⟨by rw [← hq_]; exact aQ⟩; have n3_ : aA (wZ.heap[aX]? = some (.cells #[.slice none 0 0, .slice none 0 0] 31 (0, 0))) := ⟨by rw [← hq_]; exact cA⟩; have n4_ : aA (wZ.heap[cC]? = some (.cells #[.slice oQ dI.length oR, .slice zT e5.length AK] 31 (0, 0))) := ⟨by rw [← hq_]; exact jM⟩; have n5_ : aA (Below w.heap.size w wZ) := ⟨by rw [← hq_]; exact gG⟩; clear eG fQ a3 aK bU HB hq_; have eG := n0_; have fQ := n1_; have a3 := n2_; have aK := n3_; have bU := n4_; have HB := n5_; clear n0_ n1_ n2_ n3_ n4_ n5_)); have qd := cz2 a3) | ((with_reducible refine gC 105 ?_); revert Uq; intro Uq; refine cQ (some 37) Try.func105 (iK.calls k _ _ aY _ _ aI dD _ _ l2 true _ (pB eQ) eP.1 (pB dO) fP.1 (pB IX) D0.1 Ca.out) ?_; rintro aJ4 hb; replace eG := RB tG hb; replace fQ := NE wY hb; replace a3 := bB aQ hb; replace aK := bB cA hb; replace bU := bB jM hb; replace HB := bS gG hb; clear hb; have aD0 := cz2 bU; have aD1 := cz2 aK) | ((with_reducible refine gC 105 ?_); revert RH; intro RH; refine cQ (some 37) Try.func105 (iK.calls k _ _ aY _ _ aI dD _ _ l2 false _ (pB eQ) eP.1 (pB dO) fP.1 (pB IX) D0.1 Ca.out) ?_; rintro aJ5 hb; replace eG := RB tG hb; replace fQ := NE wY hb; replace a3 := bB aQ hb; replace aK := bB cA hb; replace bU := bB jM hb; replace HB := bS gG hb; clear hb; have qe := cz2 a3) | ((with_reducible refine gC 89 ?_); revert RH; intro RH; refine cE (some 40) Try.func89 (dG.calls k _ _ aY _ _ aI oS wU _ (pB eQ) eP.1 (pB dO) fP.1 xi.out) ?_; rintro e aJ6 ⟨WM, je, rfl, hD, rM, hb⟩; refine ⟨_, rfl, ?_⟩; have pQ := am (Kd.cO (Kd.eF (Kd.jK (M := fun k_ => (w.heap.size ≤ k_)) hD (aG gG) (fun k_ h_ => h_)) (Kd.R_lt tG)) (aG gG)); have xR := am (Kd.l9 (Kd.aU (ok' := F33 w WM (.slice oQ dI.length oR) (.slice zT e5.length AK) aJ aX cC) (Kd.S_N (Kd.rJ rM)) (fun k_ hk_ => ⟨(Nat.le_trans (aG gG) hk_.2.1), hk_.1, (Kd.fresh' (Kd.R_lt tG) k_ hk_.2.1), (Kd.fresh' (Kd.N_lt wY) k_ hk_.2.1), (fB aQ k_ hk_.2.1), (fB cA k_ hk_.2.1), (fB jM k_ hk_.2.1)⟩)) (aG gG)); replace eG := am (Kd.dJ tG (Kd.bL hD) hb); replace fQ := am (Kd.aU (Kd.nD (Kd.nD (Kd.FY wY hb) (Kd.bL hD)) yV) (fun _ h_ => h_.1)); replace a3 := bB aQ hb; replace aK := bB cA hb; replace bU := bB jM hb; replace HB := bS gG hb; clear hb hD rM) | ((with_reducible refine gD 10 ?_); revert RH; intro RH; refine bX 10 #[.slice none 0 0, .slice none 0 0] 31 ?_; intro AQ hg aJ7 hbox hb; replace eG := RB tG hb; replace fQ := am (Kd.iI (Kd.pX wY AQ (Nat.le_of_eq hg.symm)) hb); replace pQ := am (Kd.jY (rR pQ.1) hb); replace xR := am (Kd.iI (Kd.pX (rN xR.1) AQ (Nat.le_of_eq hg.symm)) hb); have pL := am hbox; have nc := am (a9K : w.heap.size ≤ AQ); have Ug := nc; replace HB := bS gG hb; have D5 := nL aQ hg; have GR := nG aQ hg; replace a3 := bB aQ hb; have GO := nL cA hg; have LL := nG cA hg; replace aK := bB cA hb; have GQ := nL jM hg; have LN := nG jM hg; replace bU := bB jM hb; clear hb hbox hg; obtain ⟨zU, AL, cv⟩ := Kd.bN pQ.1; subst cv; have aD2 := nZ3 GR D5 LL GO LN GQ; have qf := cz2 pL; obtain ⟨Yd, bl, cw⟩ := Kd.iJ xR.1; subst cw) | ((with_reducible refine gC 71 ?_); revert Ur; intro Ur; refine cQ (some 31) Try.func71 (dC.calls k _ _ l2 _ _ ((aC aI dD).f2) false _ (pB IX) D0.1 (pB z4) BN.1 Xx.out) ?_; rintro w' ⟨nd, rfl⟩; (try (rw [ER wZ]; generalize hq_ : World.drewN wZ _ = wZ; have n0_ : aA (Kd.R Kd.string 9 wZ w.heap.size (fun k_ => (((w.heap.size ≤ k_)) ∧ True)) (.slice oQ dI.length oR) dI) := ⟨by rw [← hq_]; exact tG⟩; have n1_ : aA (Kd.N k56 56 wZ w.heap.size (fun k_ => ((((w.heap.size ≤ k_)) ∧ (some k_ ≠ (.slice oQ dI.length oR : Value).ownBlock ∧ (k_ ≠ aJ ∧ k_ ≠ aX))) ∧ k_ ≠ cC)) (.slice zT e5.length AK) e5) := ⟨by rw [← hq_]; exact wY⟩; have n2_ : aA (wZ.heap[aJ]? = some (.cells #[.slice eL aY.length eO, .slice (some yQ) aI.length eJ] 31 (0, 0))) := ⟨by rw [← hq_]; exact aQ⟩; have n3_ : aA (wZ.heap[aX]? = some (.cells #[.slice none 0 0, .slice none 0 0] 31 (0, 0))) := ⟨by rw [← hq_]; exact cA⟩; have n4_ : aA (wZ.heap[cC]? = some (.cells #[.slice oQ dI.length oR, .slice zT e5.length AK] 31 (0, 0))) := ⟨by rw [← hq_]; exact jM⟩; have n5_ : aA (Below w.heap.size w wZ) := ⟨by rw [← hq_]; exact gG⟩; clear eG fQ a3 aK bU HB hq_; have eG := n0_; have fQ := n1_; have a3 := n2_; have aK := n3_; have bU := n4_; have HB := n5_; clear n0_ n1_ n2_ n3_ n4_ n5_)); have aD3 := cz2 bU; have aD4 := cz2 aK) | ((with_reducible refine gC 22 ?_); revert Us; intro Us; refine cQ (some 13) Try.func22 (aH.calls k _ _ aY _ _ aI false _ (pB eQ) eP.1 (pB dO) fP.1 A4.out) ?_; rintro aJ8 hb; replace a3 := bB aQ hb; replace aK := bB cA hb; replace HB := bS nO hb; clear hb; have aD5 := cz2 aK))
 ·refine cT aX 31 #[.slice oQ dI.length oR, .slice zT e5.length AK] (qP aK) Try.underlying31 ?_
  exact ⟨_, _, eR, mR eG aK, by refine rN ?_; exact Kd.aU (fN (fN (Kd.aU fQ.1 (fun k_ hk => (⟨hk, hk.1.2.2.2⟩ : _ ∧ k_ ≠ aX))))) (fun _ hk => ⟨hk.1.1.1, hk.1.1.2.1⟩), gG⟩
 ·refine cT aX 31 #[.slice oQ dI.length oR, .slice zT e5.length AK] (qP aK) Try.underlying31 ?_
  exact ⟨_, _, eR, mR eG aK, by refine rN ?_; exact Kd.aU (fN (fN (Kd.aU fQ.1 (fun k_ hk => (⟨hk, hk.1.2.2.2⟩ : _ ∧ k_ ≠ aX))))) (fun _ hk => ⟨hk.1.1.1, hk.1.1.2.1⟩), gG⟩
 ·go_loopg [11] k (fun kq v11 w' => ∃ (qB : Int) (zR : List (S56)) (e0 : List (S56)) (wS : Value) (OQ : Value), v11 = .int .i64 qB ∧ aA (eT.l0 kq l2 dD qB aY aI dI zR oS e0 = some (r1, r2, r3)) ∧ aA (kq ≤ k) ∧ aA (Kd.R Kd.string 9 w' w.heap.size (F10 w (.slice zU oS.length AL)) (.slice oQ dI.length oR) dI) ∧ aA (Kd.N k56 56 w' w.heap.size (F34 w (.slice oQ dI.length oR) (.slice zU oS.length AL) OQ aJ aX cC AQ) wS zR) ∧ aA (Kd.R Kd.string 9 w' w.heap.size (F10 w (.slice oQ dI.length oR)) (.slice zU oS.length AL) oS) ∧ aA (Kd.N k56 56 w' w.heap.size (F34 w (.slice oQ dI.length oR) wS (.slice zU oS.length AL) aJ aX cC AQ) OQ e0) ∧ aA (w'.heap[aJ]? = some (.cells #[(.slice eL aY.length eO), (.slice (some yQ) aI.length eJ)] 31 (0, 0))) ∧ aA (w'.heap[aX]? = some (.cells #[(.slice none 0 0), (.slice none 0 0)] 31 (0, 0))) ∧ aA (w'.heap[cC]? = some (.cells #[(.slice oQ dI.length oR), wS] 31 (0, 0))) ∧ aA (w'.heap[AQ]? = some (.cells #[(.slice zU oS.length AL), OQ] 31 (0, 0))) ∧ aA (Below w.heap.size w w'))
  case atStart => exact ⟨(0), (e5), (wU), (.slice zT e5.length AK), (.slice Yd wU.length bl), dH, H', ⟨Nat.le_refl _⟩, ⟨by refine rR ?_; exact Kd.aM (fR (fR (tR eG pL))) (fun _ hk => ⟨hk.1.1.1, hk.1.2⟩)⟩, ⟨by refine rN ?_; exact Kd.aU (fN (fN (Kd.aU fQ.1 (fun k_ hk => (⟨hk, hk.2⟩ : _ ∧ k_ ≠ AQ))))) (fun _ hk => ⟨hk.1.1.1.1.1.1, ⟨hk.1.1.1.1.1.2.1, ⟨hk.1.1.1.2, ⟨hk.1.1.2, ⟨hk.1.1.1.1.1.2.2.1, ⟨hk.1.1.1.1.1.2.2.2, ⟨hk.1.1.1.1.2, hk.1.2⟩⟩⟩⟩⟩⟩⟩)⟩, ⟨by refine rR ?_; exact Kd.aM (fR (fR (tR pQ pL))) (fun _ hk => ⟨hk.1.1.1, hk.1.2⟩)⟩, ⟨by refine rN ?_; exact Kd.aU (fN (fN (Kd.aU xR.1 (fun k_ hk => (⟨hk, hk.2⟩ : _ ∧ k_ ≠ AQ))))) (fun _ hk => ⟨hk.1.1.1, ⟨hk.1.1.2.2.1, ⟨hk.1.1.2.2.2.1, ⟨hk.1.1.2.1, ⟨hk.1.1.2.2.2.2.1, ⟨hk.1.1.2.2.2.2.2.1, ⟨hk.1.1.2.2.2.2.2.2, hk.1.2⟩⟩⟩⟩⟩⟩⟩)⟩, ⟨qF a3 D5⟩, ⟨qF aK GO⟩, ⟨qF bU GQ⟩, ⟨qP pL⟩, ⟨BH⟩⟩
  clear H'
  try clear c2
  try clear c5
  try clear HY
  try clear S1
  try clear XA
  try clear bc
  try clear Vz
  try clear py
  try clear pz
  try clear qa
  try clear qb
  try clear qc
  try clear qd
  try clear qe
  try clear qf
  try clear H4 EZ F0
  try clear Nt Ob
  obtain ⟨qB, zR, e0, wS, OQ, rfl, HA, HK1, dA, bH, jN, fE, a3, aK, bU, pL, HB⟩ := hrel
  cases gk with
  | zero => exact absurd HA.out (by simp [eT.l0])
  | succ k1 =>
   have H := HA.out
   clear HA
   simp only [eT.l0] at H
   refine ic H ?_ ?_ <;> clear H <;> intro aFO H
   obtain ⟨aFP, H⟩ := cN H
   obtain ⟨aFQ, H⟩ := cN H
   obtain ⟨aFR, H⟩ := cN H
   have HF := am H
   clear H
   rotate_left
   obtain ⟨YD, A90, H⟩ := bd H
   refine tC H ?_ ?_ <;> clear H <;> intro c91 H <;> subst c91
   obtain ⟨aO3, Uc, H⟩ := bd H
   refine tC H ?_ ?_ <;> clear H <;> intro c93 H <;> subst c93
   obtain ⟨⟨wR, CZ⟩, A94, H⟩ := bd H
   dsimp only at H
   obtain ⟨rfl, rfl, rfl⟩ := sZ3 H
   repeat clear H
   have Z95 := nZ3 dP dQ gI hZ D5 GR
   have Z98 := cz2 a3
   have Jg := trivial
   have Cz := trivial
   rotate_left
   obtain ⟨rfl, rfl, rfl⟩ := sZ3 H
   repeat clear H
   have aLJ := nZ3 dP dQ gI hZ D5 GR
   have aLK := cz2 a3
   have Jg := trivial
   have Ut := trivial
   rotate_left
   obtain ⟨⟨Q9, Tq⟩, a3S, H⟩ := bd H
   dsimp only at H
   obtain ⟨rfl, rfl, rfl⟩ := sZ3 H
   repeat clear H
   have aLR := nZ3 dP dQ gI hZ D5 GR
   have a5J := cz2 a3
   have Da := trivial
   rotate_left
   all_goals
    try go_wp2_with (first | ((with_reducible refine gC 35 ?_); revert Jg; intro Jg; refine cQ (some 64) Try.func35 (lJ.calls k1 _ _ aY _ _ aI true _ (pB eQ) eP.1 (pB dO) fP.1 A90.out) ?_; rintro aJ9 hb; replace dA := RB lG hb; replace bH := NE sO hb; replace jN := RB DL hb; replace fE := NE IK hb; replace a3 := bB aQ hb; replace aK := bB cA hb; replace bU := bB jM hb; replace pL := bB IJ hb; replace HB := bS BH hb; clear hb; have aD7 := nZ2 LL GO LN GQ; have aD8 := cz2 pL; obtain ⟨Ye, bm, cx⟩ := Kd.iJ fE.1; subst cx) | (go_at_call 35; revert Cz; intro Cz; revert Uc; intro Uc; refine cM (lJ.calls k1 _ _ oS _ _ e0 true _ (pC (Kd.aT jN.1).2.2) ((Kd.aT jN.1).2.1) (pC (Kd.cB fE.1).2.2) ((Kd.cB fE.1).2.1) Uc.out) ?_; rintro aJA hb; replace dA := RB lG hb; replace bH := NE sO hb; replace jN := RB DL hb; replace fE := NE IK hb; replace a3 := bB aQ hb; replace aK := bB cA hb; replace bU := bB jM hb; replace pL := bB IJ hb; replace HB := bS BH hb; clear hb; have aD9 := cz2 pL; clear Uc) | ((with_reducible refine gC 89 ?_); revert Cz; intro Cz; refine cE (some 72) Try.func89 (dG.calls k1 _ _ oS _ _ e0 wR CZ _ (pC (Kd.aT jN.1).2.2) ((Kd.aT jN.1).2.1) (pC (Kd.cB fE.1).2.2) ((Kd.cB fE.1).2.1) A94.out) ?_; rintro e aJB ⟨Ot, jh, rfl, hD, rM, hb⟩; refine ⟨_, rfl, ?_⟩; have nI := am (Kd.cO (Kd.eF (Kd.eF (Kd.jK (M := fun k_ => (w.heap.size ≤ k_)) hD (aG BH) (fun k_ h_ => h_)) (Kd.R_lt lG)) (Kd.R_lt DL)) (aG BH)); have qE := am (Kd.l9 (Kd.aU (ok' := F54 w Ot (.slice oQ dI.length oR) wS (.slice zU oS.length AL) (.slice Ye e0.length bm) aJ aX cC AQ) (Kd.S_N (Kd.rJ rM)) (fun k_ hk_ => ⟨(Nat.le_trans (aG BH) hk_.2.1), hk_.1, (Kd.fresh' (Kd.R_lt lG) k_ hk_.2.1), (Kd.fresh' (Kd.N_lt sO) k_ hk_.2.1), (Kd.fresh' (Kd.R_lt DL) k_ hk_.2.1), (Kd.fresh' (Kd.N_lt IK) k_ hk_.2.1), (fB aQ k_ hk_.2.1), (fB cA k_ hk_.2.1), (fB jM k_ hk_.2.1), (fB IJ k_ hk_.2.1)⟩)) (aG BH)); replace dA := am (Kd.dJ lG (Kd.bL hD) hb); replace bH := am (Kd.aU (Kd.nD (Kd.nD (Kd.FY sO hb) (Kd.bL hD)) yV) (fun _ h_ => h_.1)); replace jN := am (Kd.dJ DL (Kd.bL hD) hb); replace fE := am (Kd.aU (Kd.nD (Kd.nD (Kd.FY IK hb) (Kd.bL hD)) yV) (fun _ h_ => h_.1)); replace a3 := bB aQ hb; replace aK := bB cA hb; replace bU := bB jM hb; replace pL := bB IJ hb; replace HB := bS BH hb; clear hb hD rM; obtain ⟨Yf, bn, cy⟩ := Kd.bN nI.1; subst cy; have aDA := nZ1 gZ j9; have aDB := cz2 aK; obtain ⟨Yg, bo, cz⟩ := Kd.iJ qE.1; subst cz) | (go_at_call 35; revert Ut; intro Ut; revert Uc; intro Uc; refine cM (lJ.calls k1 _ _ oS _ _ e0 false _ (pC (Kd.aT jN.1).2.2) ((Kd.aT jN.1).2.1) (pC (Kd.cB fE.1).2.2) ((Kd.cB fE.1).2.1) Uc.out) ?_; rintro aJC hb; replace dA := RB lG hb; replace bH := NE sO hb; replace jN := RB DL hb; replace fE := NE IK hb; replace a3 := bB aQ hb; replace aK := bB cA hb; replace bU := bB jM hb; replace pL := bB IJ hb; replace HB := bS BH hb; clear hb; have aDC := nZ1 j9 gZ; have aDD := cz2 bU; have aDE := cz2 aK; obtain ⟨Yh, bp, da⟩ := Kd.iJ bH.1; subst da; clear Uc) | ((with_reducible refine gC 35 ?_); revert Da; intro Da; refine cQ (some 64) Try.func35 (lJ.calls k1 _ _ aY _ _ aI false _ (pB eQ) eP.1 (pB dO) fP.1 A90.out) ?_; rintro aJD hb; replace dA := RB lG hb; replace bH := NE sO hb; replace jN := RB DL hb; replace fE := NE IK hb; replace a3 := bB aQ hb; replace aK := bB cA hb; replace bU := bB jM hb; replace pL := bB IJ hb; replace HB := bS BH hb; clear hb; have aDF := nZ2 LL GO LN GQ; have aDG := cz2 pL; obtain ⟨Yi, bq, db⟩ := Kd.iJ fE.1; subst db) | ((with_reducible refine gC 89 ?_); revert Da; intro Da; refine cE (some 72) Try.func89 (dG.calls k1 _ _ oS _ _ e0 Q9 Tq _ (pC (Kd.aT jN.1).2.2) ((Kd.aT jN.1).2.1) (pC (Kd.cB fE.1).2.2) ((Kd.cB fE.1).2.1) a3S.out) ?_; rintro e aJE ⟨uC, wk, rfl, hD, rM, hb⟩; refine ⟨_, rfl, ?_⟩; have pR := am (Kd.cO (Kd.eF (Kd.eF (Kd.jK (M := fun k_ => (w.heap.size ≤ k_)) hD (aG BH) (fun k_ h_ => h_)) (Kd.R_lt lG)) (Kd.R_lt DL)) (aG BH)); have FV := am (Kd.l9 (Kd.aU (ok' := F54 w uC (.slice oQ dI.length oR) wS (.slice zU oS.length AL) (.slice Yi e0.length bq) aJ aX cC AQ) (Kd.S_N (Kd.rJ rM)) (fun k_ hk_ => ⟨(Nat.le_trans (aG BH) hk_.2.1), hk_.1, (Kd.fresh' (Kd.R_lt lG) k_ hk_.2.1), (Kd.fresh' (Kd.N_lt sO) k_ hk_.2.1), (Kd.fresh' (Kd.R_lt DL) k_ hk_.2.1), (Kd.fresh' (Kd.N_lt IK) k_ hk_.2.1), (fB aQ k_ hk_.2.1), (fB cA k_ hk_.2.1), (fB jM k_ hk_.2.1), (fB IJ k_ hk_.2.1)⟩)) (aG BH)); replace dA := am (Kd.dJ lG (Kd.bL hD) hb); replace bH := am (Kd.aU (Kd.nD (Kd.nD (Kd.FY sO hb) (Kd.bL hD)) yV) (fun _ h_ => h_.1)); replace jN := am (Kd.dJ DL (Kd.bL hD) hb); replace fE := am (Kd.aU (Kd.nD (Kd.nD (Kd.FY IK hb) (Kd.bL hD)) yV) (fun _ h_ => h_.1)); replace a3 := bB aQ hb; replace aK := bB cA hb; replace bU := bB jM hb; replace pL := bB IJ hb; replace HB := bS BH hb; clear hb hD rM; obtain ⟨Yj, br, dc⟩ := Kd.bN pR.1; subst dc; have aDH := nZ1 gZ j9; have aDI := cz2 aK; obtain ⟨Yk, bu, dd⟩ := Kd.iJ FV.1; subst dd))
   ·replace dA := RD dA
    replace bH := ND bH
    replace jN := RD jN
    replace fE := ND fE
    replace a3 := BD a3
    replace aK := BD aK
    replace bU := BD bU
    replace pL := BD pL
    replace HB := am (aV HB.1)
    obtain ⟨aLB, Ll, tb⟩ := Kd.iJ fE.1
    (first | subst tb | (obtain ⟨f4_, f5_⟩ := sj tb; subst f4_; subst f5_))
    have Nu : 0 ≤ (dD : Int) := oT
    have Oc : dD < (e0.length : Int) := oT
    obtain ⟨P6, OR, PF, Xu, av, cj, KG, KH, KI, Ep, Eh, Er, Ei⟩ := x9 (Kd.cB fE.1).2.2 dD Nu Oc
    cases cj
    obtain ⟨ce122, hce122, hMe122, hcc122⟩ := Kd.WZ fE.1 z56 dD Nu (by first | exact Oc | exact oT | (have e_ := (Kd.cB fE.1).1; omega))
    obtain ⟨ua122_1, uc122_1, ua122_2, uc122_2, rfl, WI, UP, WJ, UQ⟩ := qV hMe122
    have OE := hcc122 1 _ rfl
    rw [mO _ _ 1 (by omega)] at OE
    replace OE := Option.some.inj (OE.symm.trans KH)
    injection OE with hva_ hvn_ hvc_
    rw [hva_] at UP
    rw [hvc_] at WI
    have O1 := am (show Kd.V Kd.string 9 _ w.heap.size _ _ ((aC e0 dD).f1) from Kd.V_mk WI UP)
    clear hva_ hvn_ hvc_ UP WI
    have OG := hcc122 2 _ rfl
    rw [mO _ _ 2 (by omega)] at OG
    replace OG := Option.some.inj (OG.symm.trans KI)
    injection OG with hva_ hvn_ hvc_
    rw [hva_] at UQ
    rw [hvc_] at WJ
    have O2 := am (show Kd.V Kd.string 9 _ w.heap.size _ _ ((aC e0 dD).f2) from Kd.V_mk WJ UQ)
    clear hva_ hvn_ hvc_ UQ WJ
    clear hcc122 hce122
    have uT := am Eh
    have Cj := am Ep
    clear Eh Ep
    have EI := am Ei
    have xt := am Er
    clear Ei Er
    replace Nu := eq_true Nu
    replace Oc := eq_true Oc
    obtain ⟨qk, a7K, VF, Sx, aNV, aO0⟩ := aSw IX HB qB
    cases a7K
    refine sT (S := fun w' => w'.cell? ⟨AQ, 0, none⟩ = some (.slice zU oS.length AL) ∧ w'.cell? ⟨AQ, 1, none⟩ = some (.slice (some P6) e0.length Ll) ∧ w'.cell? (P6.add ((dD).toNat * 3)) = some (.string ((aC e0 dD).f0)) ∧ w'.cell? ⟨(P6.add ((dD).toNat * 3)).block, (P6.add ((dD).toNat * 3)).off + 1, none⟩ = some (.slice OR ((aC e0 dD).f1).length PF) ∧ w'.cell? ⟨(P6.add ((dD).toNat * 3)).block, (P6.add ((dD).toNat * 3)).off + 2, none⟩ = some (.slice Xu ((aC e0 dD).f2).length av) ∧ w'.cell? (qk.add (qB).toNat) = some (.string (rdOf ByteArray.empty l2 qB))) [16] 17 ⟨⟨(bF pL.1 0).trans rfl, (bF pL.1 1).trans rfl, KG, KH, KI, (hX HB VF)⟩⟩ (fun hHeld => ?_)
    refine dZ eT.YF eT.P9 (fun HT_ HW_ => ?_)
    generalize wr.drew = w86 at dA bH jN fE a3 aK bU pL HB O1 O2 uT EI KG KH KI Sx hHeld ⊢
    refine pU7 0 2 3 5 9 10 11 ?_
    refine tK6 1 (some 48) ?_
    refine tK6 4 (some 51) ?_
    refine pU2 6 7 ?_
    refine tK6 8 (some 55) ?_
    refine tK6 12 (some 59) ?_
    have H := HF.out
    clear HF
    by_cases cF : insF (rdOf ByteArray.empty l2 qB) ((aC e0 dD).f1) = true
    ·rw [if_pos cF] at H
     have H' := am H
     repeat clear H
     have A84 := am (show dF.q0 (((aC e0 dD).f1).length + 1) ((aC e0 dD).f1) (rdOf ByteArray.empty l2 qB) 0 = some true from dF.Xk ((aC e0 dD).f1) (rdOf ByteArray.empty l2 qB) uT.1.2.1 ((aC e0 dD).f1).length 0 (by omega) (by simpa using cF))
     refine oN 13 (some 60) fun K hK => ?_
     refine wF Try.func106 (by kernel_rfl) rfl #[.slice OR ((aC e0 dD).f1).length PF, .string (rdOf ByteArray.empty l2 qB)] (by rfl) rfl rfl FO ?_
     with_reducible refine (dF.same (((aC e0 dD).f1).length + 1) _ _ ((aC e0 dD).f1) (rdOf ByteArray.empty l2 qB) _ ?side1 ?side2 A84.out).mono ?_
     (case side1 => exact pC (by repeat (first | (with_reducible exact uT.1) | (with_reducible refine Kd.gU ?_ _) | (with_reducible refine Kd.gV ?_ _) | (with_reducible refine Kd.iW ?_) | exact uT.1)))
     (case side2 => exact Cj.1)
     rintro e w88 ⟨rfl, hb⟩
     have HS2_ := (hb.cell (World.block_lt_of_cell? _ _ (hHeld.2.2.1))).trans (hHeld.2.2.1)
     have HS3_ := (hb.cell (World.block_lt_of_cell? _ _ (hHeld.2.2.2.1))).trans (hHeld.2.2.2.1)
     have HS4_ := (hb.cell (World.block_lt_of_cell? _ _ (hHeld.2.2.2.2.1))).trans (hHeld.2.2.2.2.1)
     refine ⟨_, rfl, ?_⟩
     replace dA := RB lG hb
     replace bH := NE sO hb
     replace jN := RB DL hb
     replace fE := NE IK hb
     replace a3 := bB aQ hb
     replace aK := bB cA hb
     replace bU := bB jM hb
     replace pL := bB IJ hb
     replace uT := am (Kd.bK (by repeat (first | (with_reducible exact uT.1) | (with_reducible refine Kd.gU ?_ _) | (with_reducible refine Kd.gV ?_ _) | (with_reducible refine Kd.iW ?_) | exact uT.1)) hb)
     replace EI := am (Kd.bK (by repeat (first | (with_reducible exact EI.1) | (with_reducible refine Kd.gU ?_ _) | (with_reducible refine Kd.gV ?_ _) | (with_reducible refine Kd.iW ?_) | exact EI.1)) hb)
     replace HB := bS BH hb
     clear O1
     clear O2
     clear hb
     have gu : 0 ≤ (dD : Int) := oT
     have ig : (dD : Int) < ((e0.length : Int) : Int) := oT
     obtain ⟨yE, a7E, Ma, Mg, gl85, cl85, HG85⟩ := Kd.ZI fE.1 (by omega)
     (first | cases Ma | (injection Ma with ea_ en_ ec_; (first | subst ea_ | (injection ea_ with ea_; subst ea_)); subst ec_; clear en_))
     have GB85 := am Mg
     have GG85 := am HG85
     clear Mg gl85 HG85
     (first | simp only [add_plain] at KG | skip)
     (first | simp only [add_plain] at KH | skip)
     (first | simp only [add_plain] at KI | skip)
     obtain ⟨ce85, hcl85, hM85, hcc85, hfr85⟩ := Kd.IZ fE.1 z56 (dD : Int) gu ig
     obtain ⟨ua85_1, uc85_1, ua85_2, uc85_2, rfl, jb, en, jc, eo⟩ := qV hM85
     have fh : World.cell? _ ⟨yE, (dD : Int).toNat * 3, none⟩ = some (.string ((aC e0 dD).f0)) := hcc85 0 _ rfl
     have fi : World.cell? _ ⟨yE, (dD : Int).toNat * 3 + 1, none⟩ = some (.slice ua85_1 ((aC e0 dD).f1).length uc85_1) := hcc85 1 _ rfl
     have fj : World.cell? _ ⟨yE, (dD : Int).toNat * 3 + 2, none⟩ = some (.slice ua85_2 ((aC e0 dD).f2).length uc85_2) := hcc85 2 _ rfl
     have hf85_0 : World.frozen? _ ⟨yE, (dD : Int).toNat * 3, none⟩ = false := hfr85 0
     have hf85_1 : World.frozen? _ ⟨yE, (dD : Int).toNat * 3 + 1, none⟩ = false := hfr85 1
     have hf85_2 : World.frozen? _ ⟨yE, (dD : Int).toNat * 3 + 2, none⟩ = false := hfr85 2
     clear hcl85 hcc85 hfr85 hM85
     replace gu := eq_true gu
     replace ig := eq_true ig
     refine hK.out _ _ ⟨(bF pL.1 0).trans rfl, (bF pL.1 1).trans rfl, HS2_, HS3_, HS4_, (hX HB VF)⟩ (fun hHeld => ?_)
     clear hK K
     refine nM ?_
     refine pU2 14 15 ?_
     refine lN 16 none fun K hK => ?_
     have hst_ : w88.cell? ⟨yE, (dD : Int).toNat * 3 + 1, none⟩ = some (.slice OR ((aC e0 dD).f1).length PF) := by
      have h_ := HS3_
      simp only [add_plain] at h_
      exact h_
     refine wP (w1 := (w88.setCell ⟨yE, (dD : Int).toNat * 3 + 1, none⟩ (.slice OR ((aC e0 dD).f1).length PF))) (by rfl) rfl ?_ ?_
     ·go_simp
      (try rfl)
     refine hK.out _ _ ?_
     clear hK K
     refine dN ?_
     rw [WF hst_]
     try go_wp2
     go_roundg k1
     case measure => have := HK1.out; omega
     case rel => exact ⟨(wrap64 (qB + 1)), (zR), (e0), (wS), (.slice (some ⟨yE, 0, none⟩) e0.length Ll), rfl, H', ⟨by have := HK1.out; omega⟩, dA, bH, jN, fE, a3, aK, bU, pL, HB⟩
    ·rw [if_neg cF] at H
     obtain ⟨F7, A84, H⟩ := bd H
     obtain ⟨yL, I8⟩ := yv (e0.set (dD : Int).toNat (⟨(aC e0 dD).f0, F7, (aC e0 dD).f2⟩ : S56)); first | replace H := bW I8 H | rw [← I8.1] at H
     have H' := am H
     repeat clear H
     refine oN 13 (some 60) fun K hK => ?_
     refine wF Try.func106 (by kernel_rfl) rfl #[.slice OR ((aC e0 dD).f1).length PF, .string (rdOf ByteArray.empty l2 qB)] (by rfl) rfl rfl FO ?_
     with_reducible refine (dF.calls k1 _ _ ((aC e0 dD).f1) (rdOf ByteArray.empty l2 qB) F7 _ ?side1 ?side2 A84.out).mono ?_
     (case side1 => exact pC (by repeat (first | (with_reducible exact uT.1) | (with_reducible refine Kd.gU ?_ _) | (with_reducible refine Kd.gV ?_ _) | (with_reducible refine Kd.iW ?_) | exact uT.1)))
     (case side2 => exact Cj.1)
     rintro e w88 ⟨y6, rfl, hD, hb⟩
     have HS2_ := (hb.cell (World.block_lt_of_cell? _ _ (hHeld.2.2.1))).trans (hHeld.2.2.1)
     have HS3_ := (hb.cell (World.block_lt_of_cell? _ _ (hHeld.2.2.2.1))).trans (hHeld.2.2.2.1)
     have HS4_ := (hb.cell (World.block_lt_of_cell? _ _ (hHeld.2.2.2.2.1))).trans (hHeld.2.2.2.2.1)
     refine ⟨_, rfl, ?_⟩
     replace bH := am (Kd.kL sO (Kd.bL hD) hb)
     replace fE := am (Kd.kL IK (Kd.bL hD) hb)
     replace O1 := am (Kd.gP (rV O1.out) (Kd.bL hD) hb)
     replace O2 := am (Kd.gP (rV O2.out) (Kd.bL hD) hb)
     have mH := am (Kd.cO (Kd.eF (Kd.eF (Kd.jK (M := fun k_ => (w.heap.size ≤ k_)) hD (aG BH) (fun k_ h_ => h_)) (Kd.R_lt lG)) (Kd.R_lt DL)) (aG BH))
     replace dA := am (Kd.dJ lG (Kd.bL hD) hb)
     replace jN := am (Kd.dJ DL (Kd.bL hD) hb)
     replace a3 := bB aQ hb
     replace aK := bB cA hb
     replace bU := bB jM hb
     replace pL := bB IJ hb
     replace uT := am (Kd.bK (by repeat (first | (with_reducible exact uT.1) | (with_reducible refine Kd.gU ?_ _) | (with_reducible refine Kd.gV ?_ _) | (with_reducible refine Kd.iW ?_) | exact uT.1)) hb)
     replace EI := am (Kd.bK (by repeat (first | (with_reducible exact EI.1) | (with_reducible refine Kd.gU ?_ _) | (with_reducible refine Kd.gV ?_ _) | (with_reducible refine Kd.iW ?_) | exact EI.1)) hb)
     replace HB := bS BH hb
     clear hb hD
     have gu : 0 ≤ (dD : Int) := oT
     have ig : (dD : Int) < ((e0.length : Int) : Int) := oT
     obtain ⟨yE, a7E, Ma, Mg, gl85, cl85, HG85⟩ := Kd.ZI fE.1 (by omega)
     (first | cases Ma | (injection Ma with ea_ en_ ec_; (first | subst ea_ | (injection ea_ with ea_; subst ea_)); subst ec_; clear en_))
     have GB85 := am Mg
     have GG85 := am HG85
     clear Mg gl85 HG85
     (first | simp only [add_plain] at KG | skip)
     (first | simp only [add_plain] at KH | skip)
     (first | simp only [add_plain] at KI | skip)
     obtain ⟨ce85, hcl85, hM85, hcc85, hfr85⟩ := Kd.IZ fE.1 z56 (dD : Int) gu ig
     obtain ⟨ua85_1, uc85_1, ua85_2, uc85_2, rfl, jb, en, jc, eo⟩ := qV hM85
     have fh : World.cell? _ ⟨yE, (dD : Int).toNat * 3, none⟩ = some (.string ((aC e0 dD).f0)) := hcc85 0 _ rfl
     have fi : World.cell? _ ⟨yE, (dD : Int).toNat * 3 + 1, none⟩ = some (.slice ua85_1 ((aC e0 dD).f1).length uc85_1) := hcc85 1 _ rfl
     have fj : World.cell? _ ⟨yE, (dD : Int).toNat * 3 + 2, none⟩ = some (.slice ua85_2 ((aC e0 dD).f2).length uc85_2) := hcc85 2 _ rfl
     have hf85_0 : World.frozen? _ ⟨yE, (dD : Int).toNat * 3, none⟩ = false := hfr85 0
     have hf85_1 : World.frozen? _ ⟨yE, (dD : Int).toNat * 3 + 1, none⟩ = false := hfr85 1
     have hf85_2 : World.frozen? _ ⟨yE, (dD : Int).toNat * 3 + 2, none⟩ = false := hfr85 2
     clear hcl85 hcc85 hfr85 hM85
     replace gu := eq_true gu
     replace ig := eq_true ig
     have HX89 := am (show Kd.N k56 56 _ w.heap.size (F44 w (.slice oQ dI.length oR) wS (.slice zU oS.length AL) y6 aJ aX cC AQ) (.slice (some ⟨yE, 0, none⟩) e0.length Ll) e0 from (Kd.aU (fE.1) (fun k_ hk => ⟨hk.1.1, ⟨hk.1.2.1, ⟨hk.1.2.2.1, ⟨hk.1.2.2.2.1, ⟨hk.2, ⟨hk.1.2.2.2.2.1, ⟨hk.1.2.2.2.2.2.1, ⟨hk.1.2.2.2.2.2.2.1, hk.1.2.2.2.2.2.2.2⟩⟩⟩⟩⟩⟩⟩⟩)))
     replace HX89 := am (show Kd.N k56 56 _ w.heap.size (F34 w (.slice oQ dI.length oR) wS (.slice zU oS.length AL) aJ aX cC AQ) (.slice (some ⟨yE, 0, none⟩) e0.length Ll) e0 from Kd.aU HX89.out (fun k_ hk => ⟨hk.1, ⟨hk.2.1, ⟨hk.2.2.1, ⟨hk.2.2.2.1, ⟨hk.2.2.2.2.2.1, ⟨hk.2.2.2.2.2.2.1, ⟨hk.2.2.2.2.2.2.2.1, hk.2.2.2.2.2.2.2.2⟩⟩⟩⟩⟩⟩⟩))
     obtain ⟨ce89, hcl89, hM89, hcc89, hfr89⟩ := Kd.IZ HX89.out z56 (dD : Int) (oT) (by have h_ : (dD : Int) < ((e0.length : Int) : Int) := oT; first | exact h_ | (have e_ := (Kd.cB fE.1).1; omega) | simpa using h_)
     obtain ⟨ua89_1, uc89_1, ua89_2, uc89_2, rfl, aA7, a8M, jd, ep⟩ := qV hM89
     have HP89 := (Kd.Jm HX89.out (dD : Int) (oT) (by have h_ : (dD : Int) < ((e0.length : Int) : Int) := oT; first | exact h_ | (have e_ := (Kd.cB fE.1).1; omega) | simpa using h_) (seg := [y6]) (j := 1) hcl89 hcc89 (show 2 ≤ 3 from by decide) (x' := (⟨(aC e0 dD).f0, F7, (aC e0 dD).f2⟩ : S56)) (Y1 _ _ (⟨(aC e0 dD).f0, F7, (aC e0 dD).f2⟩ : S56) (Kd.aM (ok' := (fun k_ => ((F34 w (.slice oQ dI.length oR) wS (.slice zU oS.length AL) aJ aX cC AQ)) k_ ∧ k_ ≠ yE)) (Kd.fK (Kd.fK (Kd.fK (Kd.fK (Kd.nA (Kd.nA (mH.1) (Kd.iV bH.1) (by decide)) (Kd.iV fE.1) (by decide)) a3.1 (by decide)) aK.1 (by decide)) bU.1 (by decide)) pL.1 (by decide)) (fun k_ hk => ⟨⟨hk.1.1.1.1.1.1.1.1.1, ⟨hk.1.1.1.1.1.1.1.2, ⟨hk.1.1.1.1.1.2, ⟨hk.1.1.1.1.1.1.2, ⟨hk.1.1.1.2, ⟨hk.1.1.2, ⟨hk.1.2, hk.2⟩⟩⟩⟩⟩⟩⟩, fun e_ => (hk.1.1.1.1.2) (by rw [e_]; rfl)⟩)) jd ep) (fun _ hk => hk)).1
     rw [← I8.out] at HP89
     have HQ89 := am HP89
     clear hcl89 hcc89 hfr89 hM89 HP89
     refine hK.out _ _ ⟨(bF pL.1 0).trans rfl, (bF pL.1 1).trans rfl, HS2_, HS3_, HS4_, (hX HB VF)⟩ (fun hHeld => ?_)
     clear hK K
     refine nM ?_
     refine pU2 14 15 ?_
     refine lN 16 none fun K hK => ?_
     refine wP (w1 := (w88.setCell ⟨yE, (dD : Int).toNat * 3 + 1, none⟩ (y6))) (by rfl) rfl ?_ ?_
     skip
     ·obtain ⟨Az_, cz_, ez_⟩ := Kd.bN mH.1
      subst ez_
      go_simp
      (try rfl)
     refine hK.out _ _ ?_
     clear hK K
     refine dN ?_
     try go_wp2
     go_roundg k1
     case measure => have := HK1.out; omega
     case rel => exact ⟨(wrap64 (qB + 1)), (zR), (yL), (wS), (.slice (some ⟨yE, 0, none⟩) e0.length Ll), dH, H', ⟨by have := HK1.out; omega⟩, ⟨by refine rR ?_; exact Kd.aM (Kd.qO (p := ⟨yE, (dD : Int).toNat * 3 + 1, none⟩) (tR dA GG85) (fun _ hk => hk.2) (y6)) (fun _ hk => ⟨hk.1.1.1, hk.1.1.2⟩)⟩, ⟨by refine rN ?_; exact Kd.aU (Kd.BR (p := ⟨yE, (dD : Int).toNat * 3 + 1, none⟩) (Kd.aU bH.1 (fun k_ hk => (⟨hk, fun e_ => hk.1.2.2.2.1 (by rw [e_]; rfl)⟩ : _ ∧ k_ ≠ yE))) (fun _ hk => hk.2) (y6)) (fun _ hk => ⟨hk.1.1.1, ⟨hk.1.1.2.1, ⟨hk.1.1.2.2.1, ⟨hk.1.1.2.2.2.1, ⟨hk.1.1.2.2.2.2.1, ⟨hk.1.1.2.2.2.2.2.1, ⟨hk.1.1.2.2.2.2.2.2.1, hk.1.1.2.2.2.2.2.2.2⟩⟩⟩⟩⟩⟩⟩)⟩, ⟨by refine rR ?_; exact Kd.aM (Kd.qO (p := ⟨yE, (dD : Int).toNat * 3 + 1, none⟩) (tR jN GG85) (fun _ hk => hk.2) (y6)) (fun _ hk => ⟨hk.1.1.1, hk.1.1.2⟩)⟩, ⟨rN HQ89.out⟩, ⟨by refine rB ?_; refine dY ?_ (by have h_ := Kd.FW fE.1 (fun _ hk => by first | exact hk.2.2.2.2.1 | exact hk.1.2.2.2.2.1); intro e_; exact h_ (by rw [e_]; rfl)) _; refine rB ?_; exact a3.1⟩, ⟨by refine rB ?_; refine dY ?_ (by have h_ := Kd.FW fE.1 (fun _ hk => by first | exact hk.2.2.2.2.2.1 | exact hk.1.2.2.2.2.2.1); intro e_; exact h_ (by rw [e_]; rfl)) _; refine rB ?_; exact aK.1⟩, ⟨by refine rB ?_; refine dY ?_ (by have h_ := Kd.FW fE.1 (fun _ hk => by first | exact hk.2.2.2.2.2.2.1 | exact hk.1.2.2.2.2.2.2.1); intro e_; exact h_ (by rw [e_]; rfl)) _; refine rB ?_; exact bU.1⟩, ⟨by refine rB ?_; refine dY ?_ (by have h_ := Kd.FW fE.1 (fun _ hk => by first | exact hk.2.2.2.2.2.2.2 | exact hk.1.2.2.2.2.2.2.2); intro e_; exact h_ (by rw [e_]; rfl)) _; refine rB ?_; exact pL.1⟩, ⟨by repeat (first | (with_reducible first | exact HB.1 | apply cZ | apply bR | apply aV | refine bI ?_ GB85.out | refine bI ?_ iE.1 | refine bI ?_ nX.1 | refine bI ?_ I5.1 | refine bI ?_ Ug.1) | exact HB.1)⟩⟩
   ·refine cT aX 31 #[.slice Yf wR.length bn, .slice Yg CZ.length bo] (qP aK) Try.underlying31 ?_
    exact ⟨_, _, eR, by refine rR ?_; exact Kd.aM (fR (fR (tR nI aK))) (fun _ hk => hk.1.1.1.1), by refine rN ?_; exact Kd.aU (fN (fN (Kd.aU qE.1 (fun k_ hk => (⟨hk, hk.2.2.2.2.2.2.2.1⟩ : _ ∧ k_ ≠ aX))))) (fun _ hk => ⟨hk.1.1, hk.1.2.1⟩), BH⟩
   ·refine cT aX 31 #[.slice oQ dI.length oR, .slice Yh zR.length bp] (qP aK) Try.underlying31 ?_
    exact ⟨_, _, eR, mR dA aK, by refine rN ?_; exact Kd.aU (fN (fN (Kd.aU bH.1 (fun k_ hk => (⟨hk, hk.2.2.2.2.2.1⟩ : _ ∧ k_ ≠ aX))))) (fun _ hk => ⟨hk.1.1, hk.1.2.1⟩), BH⟩
   ·refine cT aX 31 #[.slice Yj Q9.length br, .slice Yk Tq.length bu] (qP aK) Try.underlying31 ?_
    exact ⟨_, _, eR, by refine rR ?_; exact Kd.aM (fR (fR (tR pR aK))) (fun _ hk => hk.1.1.1.1), by refine rN ?_; exact Kd.aU (fN (fN (Kd.aU FV.1 (fun k_ hk => (⟨hk, hk.2.2.2.2.2.2.2.1⟩ : _ ∧ k_ ≠ aX))))) (fun _ hk => ⟨hk.1.1, hk.1.2.1⟩), BH⟩
 ·refine cT aX 31 #[.slice oQ dI.length oR, .slice zT e5.length AK] (qP aK) Try.underlying31 ?_
  exact ⟨_, _, eR, mR eG aK, by refine rN ?_; exact Kd.aU (fN (fN (Kd.aU fQ.1 (fun k_ hk => (⟨hk, hk.1.2.2.2⟩ : _ ∧ k_ ≠ aX))))) (fun _ hk => ⟨hk.1.1.1, hk.1.1.2.1⟩), gG⟩
 refine cT aX 31 #[.slice none 0 0, .slice none 0 0] vi Try.underlying31 ?_
 exact ⟨_, _, eR, by first | exact Kd.vJ _ _ _ _ _ | exact Kd.zV _ _ _ _ _ | exact Kd.zZ _ _ _ _ _ | exact Kd.zW _ _ _ _ _ | exact Kd.zY _ _ _ _ _, by first | exact Kd.zY _ _ _ _ _ | exact Kd.zV _ _ _ _ _ | exact Kd.zZ _ _ _ _ _ | exact Kd.zW _ _ _ _ _ | exact Kd.vJ _ _ _ _ _, nO⟩
def tJ.f (k : Nat) (aY : List ByteArray) (aI : List (S56)) (a1_0 : Int) (a1_1 : ByteArray) (M6 : List ByteArray) : Option (List ByteArray × (List (S56))) := if a1_0 = 1 then ((dB.f k aY aI a1_1 M6).bind fun a => (some (a.1, a.2.1))) else (if a1_0 = 2 then ((eT.f k aY aI a1_1 M6).bind fun b => (some (b.1, b.2.1))) else (if a1_0 = 3 then ((eD.f k aY aI a1_1 M6).bind fun c => (some (c.1, c.2.1))) else ((gT.f k aY aI a1_1).bind fun d => (some (d.1, d.2.1)))))
theorem tJ.calls (k : Nat) (eL : Option Addr) (eO : Nat) (aY : List ByteArray) (fJ : Option Addr) (eJ : Nat) (aI : List (S56)) (a1_0 : Int) (a1_1 : ByteArray) (Xw : Option Addr) (ba : Nat) (M6 : List ByteArray) (r1 : List ByteArray) (r2 : List (S56)) (w : World) (iQ : Kd.C Kd.string w eL aY.length aY) (iO : aY.length ≤ eO) (iH : Kd.C k56 w fJ aI.length aI) (iP : aI.length ≤ eJ) (Xi : Kd.C Kd.string w Xw M6.length M6) (Ws : M6.length ≤ ba) (h : tJ.f k aY aI a1_0 a1_1 M6 = some (r1, r2)) :
  Calls Try.prog 130 #[.agg #[.slice eL aY.length eO, .slice fJ aI.length eJ], .agg #[.int .i64 a1_0, .string a1_1, .slice Xw M6.length ba]] w fun e w' => ∃ v0_ v1_ : Value, e = .returned (.agg #[v0_, v1_]) ∧ Kd.R Kd.string 9 w' w.heap.size (fun k_ => (w.heap.size ≤ k_)) v0_ r1 ∧ Kd.N k56 56 w' w.heap.size (F10 w v0_) v1_ r2 ∧ Below w.heap.size w w' := by
 have hu31 := Try.underlying31
 have hu106 := Try.underlying106
 obtain ⟨eQ, eP⟩ := mZ2 iQ iO
 obtain ⟨dO, fP⟩ := mZ2 iH iP
 obtain ⟨Iu, Ip⟩ := mZ2 Xi Ws
 clear iQ iO iH iP Xi Ws
 have HB := am (Below.refl w.heap.size w)
 unfold tJ.f at h
 have H := h
 clear h
 refine iq H ?_ ?_ <;> clear H <;> intro c3 BG UA H
 obtain ⟨⟨dI, e5, vD⟩, A4, H⟩ := bd H
 dsimp only at H
 obtain ⟨rfl, rfl⟩ := sZ2 H
 repeat clear H
 have Uu := trivial
 rotate_left
 refine iq H ?_ ?_ <;> clear H <;> intro MW vO Lb H
 obtain ⟨⟨dD, L0, y4⟩, A19, H⟩ := bd H
 dsimp only at H
 obtain ⟨rfl, rfl⟩ := sZ2 H
 repeat clear H
 have Uv := trivial
 rotate_left
 refine iq H ?_ ?_ <;> clear H <;> intro c33 aF1 aF2 H
 obtain ⟨⟨wU, I0, F7⟩, A34, H⟩ := bd H
 dsimp only at H
 obtain ⟨rfl, rfl⟩ := sZ2 H
 repeat clear H
 have Uw := trivial
 rotate_left
 obtain ⟨⟨QW, YD, YE⟩, A48, H⟩ := bd H
 dsimp only at H
 obtain ⟨rfl, rfl⟩ := sZ2 H
 repeat clear H
 have Ux := trivial
 rotate_left
 all_goals
  go_enter Try.func130, Try.ntmps130
  go_wp2_with (first | ((with_reducible refine gD 2 ?_); refine bX 2 #[.slice eL aY.length eO, .slice fJ aI.length eJ] 31 ?_; intro aJ hg aJF hbox hb; have a3 := am hbox; have gH := am (u0 : w.heap.size ≤ aJ); have iE := gH; replace HB := bS eI hb; clear hb hbox hg) | ((with_reducible refine gD 3 ?_); refine bX 3 #[.int .i64 a1_0, .string a1_1, .slice Xw M6.length ba] 106 ?_; intro aX hg aJG hbox hb; have aK := am hbox; have mP := am (GG : w.heap.size ≤ aX); have nX := mP; replace HB := bS dS hb; have dP := nL aQ hg; have dQ := nG aQ hg; replace a3 := bB aQ hb; clear hb hbox hg) | ((with_reducible refine gD 4 ?_); refine bX 4 #[.slice none 0 0, .slice none 0 0] 31 ?_; intro sL hg aJH hbox hb; have jV := am hbox; have WU := am (Y7 : w.heap.size ≤ sL); have I4 := WU; replace HB := bS nO hb; have x5 := nL aQ hg; have qM := nG aQ hg; replace a3 := bB aQ hb; have Fy := nL cA hg; have Fz := nG cA hg; replace aK := bB cA hb; clear hb hbox hg; have aDJ := nZ2 dQ dP Fy Fz; have aDK := cz3 aK; have aDL := nZ1 x5 qM; have aDM := cz2 a3) | ((with_reducible refine gC 59 ?_); revert Uu; intro Uu; refine cE (some 22) Try.func59 (dB.calls k _ _ aY _ _ aI a1_1 _ _ M6 dI e5 vD _ (pB eQ) eP.1 (pB dO) fP.1 (pB Iu) Ip.1 A4.out) ?_; rintro e aJI ⟨JI, FP, rfl, hD, rM, hb⟩; refine ⟨_, rfl, ?_⟩; have eG := am (Kd.cO (Kd.jK (M := fun k_ => (w.heap.size ≤ k_)) (Kd.aM (ok' := fun k_ => True) hD (fun _ hk_ => trivial)) (aG zH) (fun k_ h_ => h_)) (aG zH)); have fQ := am (Kd.l9 (Kd.aU (ok' := F13 w JI aJ aX sL) rM (fun k_ hk_ => ⟨(Nat.le_trans (aG zH) hk_.1), hk_.2, (fB aQ k_ hk_.1), (fB cA k_ hk_.1), (fB IH k_ hk_.1)⟩)) (aG zH)); replace a3 := bB aQ hb; replace aK := bB cA hb; replace jV := bB IH hb; replace HB := bS zH hb; clear hb hD rM; obtain ⟨TE, UE, de⟩ := Kd.bN eG.1; subst de; have aDN := cz2 a3; obtain ⟨YY, Ac, df⟩ := Kd.iJ fQ.1; subst df; have aDO := cz2 jV) | ((with_reducible refine gC 61 ?_); revert Uv; intro Uv; refine cE (some 33) Try.func61 (eT.calls k _ _ aY _ _ aI a1_1 _ _ M6 dD L0 y4 _ (pB eQ) eP.1 (pB dO) fP.1 (pB Iu) Ip.1 A19.out) ?_; rintro e aJJ ⟨wi, aAC, rfl, hD, rM, hb⟩; refine ⟨_, rfl, ?_⟩; have Ck := am (Kd.cO (Kd.jK (M := fun k_ => (w.heap.size ≤ k_)) (Kd.aM (ok' := fun k_ => True) hD (fun _ hk_ => trivial)) (aG zH) (fun k_ h_ => h_)) (aG zH)); have Cl := am (Kd.l9 (Kd.aU (ok' := F13 w wi aJ aX sL) rM (fun k_ hk_ => ⟨(Nat.le_trans (aG zH) hk_.1), hk_.2, (fB aQ k_ hk_.1), (fB cA k_ hk_.1), (fB IH k_ hk_.1)⟩)) (aG zH)); replace a3 := bB aQ hb; replace aK := bB cA hb; replace jV := bB IH hb; replace HB := bS zH hb; clear hb hD rM; obtain ⟨TF, UF, dg⟩ := Kd.bN Ck.1; subst dg; have aDP := cz2 a3; obtain ⟨YZ, Ad, dh⟩ := Kd.iJ Cl.1; subst dh; have aDQ := cz2 jV) | ((with_reducible refine gC 49 ?_); revert Uw; intro Uw; refine cE (some 44) Try.func49 (eD.calls k _ _ aY _ _ aI a1_1 _ _ M6 wU I0 F7 _ (pB eQ) eP.1 (pB dO) fP.1 (pB Iu) Ip.1 A34.out) ?_; rintro e aJK ⟨je, jf, rfl, hD, rM, hb⟩; refine ⟨_, rfl, ?_⟩; have xR := am (Kd.cO (Kd.jK (M := fun k_ => (w.heap.size ≤ k_)) (Kd.aM (ok' := fun k_ => True) hD (fun _ hk_ => trivial)) (aG zH) (fun k_ h_ => h_)) (aG zH)); have wV := am (Kd.l9 (Kd.aU (ok' := F13 w je aJ aX sL) rM (fun k_ hk_ => ⟨(Nat.le_trans (aG zH) hk_.1), hk_.2, (fB aQ k_ hk_.1), (fB cA k_ hk_.1), (fB IH k_ hk_.1)⟩)) (aG zH)); replace a3 := bB aQ hb; replace aK := bB cA hb; replace jV := bB IH hb; replace HB := bS zH hb; clear hb hD rM; obtain ⟨TG, UH, di⟩ := Kd.bN xR.1; subst di; have aDR := cz2 a3; obtain ⟨Z0, Ae, dj⟩ := Kd.iJ wV.1; subst dj; have aDS := cz2 jV) | ((with_reducible refine gC 46 ?_); revert Ux; intro Ux; refine cE (some 11) Try.func46 (gT.calls k _ _ aY _ _ aI a1_1 QW YD YE _ (pB eQ) eP.1 (pB dO) fP.1 A48.out) ?_; rintro e aJL ⟨Bo, aAE, rfl, hD, rM, hb⟩; refine ⟨_, rfl, ?_⟩; have vX := am (Kd.cO (Kd.jK (M := fun k_ => (w.heap.size ≤ k_)) (Kd.aM (ok' := fun k_ => True) hD (fun _ hk_ => trivial)) (aG zH) (fun k_ h_ => h_)) (aG zH)); have WW := am (Kd.l9 (Kd.aU (ok' := F13 w Bo aJ aX sL) rM (fun k_ hk_ => ⟨(Nat.le_trans (aG zH) hk_.1), hk_.2, (fB aQ k_ hk_.1), (fB cA k_ hk_.1), (fB IH k_ hk_.1)⟩)) (aG zH)); replace a3 := bB aQ hb; replace aK := bB cA hb; replace jV := bB IH hb; replace HB := bS zH hb; clear hb hD rM; obtain ⟨TH, UI, dk⟩ := Kd.bN vX.1; subst dk; have aDT := cz2 a3; obtain ⟨Z1, Af, dl⟩ := Kd.iJ WW.1; subst dl; have aDU := cz2 jV))
 ·refine cR sL 31 #[.slice TE dI.length UE, .slice YY e5.length Ac] (by refine rB ?_; refine eH (cs := #[.slice TE dI.length UE, .slice none 0 0]) ?_ 1 _ rfl; refine rB ?_; refine eH (cs := #[.slice none 0 0, .slice none 0 0]) ?_ 0 _ rfl; refine rB ?_; refine dY ?_ qM.1 _; refine rB ?_; refine dY ?_ qM.1 _; refine rB ?_; exact jV.1) Try.underlying31 ?_
  exact ⟨_, _, eR, by refine rR ?_; exact Kd.aM (fR (fR (Kd.qO (p := ⟨aJ, 1, none⟩) (Kd.qO (p := ⟨aJ, 0, none⟩) (Kd.fK (tR eG a3) jV.1 (by decide)) (fun _ hk => hk.1.2) (.slice TE dI.length UE)) (fun _ hk => hk.1.2) (.slice YY e5.length Ac)))) (fun _ hk => hk.1.1.1), by refine rN ?_; exact Kd.aU (fN (fN (Kd.BR (p := ⟨aJ, 1, none⟩) (Kd.BR (p := ⟨aJ, 0, none⟩) (Kd.aU (Kd.aU fQ.1 (fun k_ hk => (⟨hk, hk.2.2.1⟩ : _ ∧ k_ ≠ aJ))) (fun k_ hk => (⟨hk, hk.1.2.2.2.2⟩ : _ ∧ k_ ≠ sL))) (fun _ hk => hk.1.2) (.slice TE dI.length UE)) (fun _ hk => hk.1.2) (.slice YY e5.length Ac)))) (fun _ hk => ⟨hk.1.1.1, hk.1.1.2.1⟩), zH⟩
 ·refine cR sL 31 #[.slice TF dD.length UF, .slice YZ L0.length Ad] (by refine rB ?_; refine eH (cs := #[.slice TF dD.length UF, .slice none 0 0]) ?_ 1 _ rfl; refine rB ?_; refine eH (cs := #[.slice none 0 0, .slice none 0 0]) ?_ 0 _ rfl; refine rB ?_; refine dY ?_ qM.1 _; refine rB ?_; refine dY ?_ qM.1 _; refine rB ?_; exact jV.1) Try.underlying31 ?_
  exact ⟨_, _, eR, by refine rR ?_; exact Kd.aM (fR (fR (Kd.qO (p := ⟨aJ, 1, none⟩) (Kd.qO (p := ⟨aJ, 0, none⟩) (Kd.fK (tR Ck a3) jV.1 (by decide)) (fun _ hk => hk.1.2) (.slice TF dD.length UF)) (fun _ hk => hk.1.2) (.slice YZ L0.length Ad)))) (fun _ hk => hk.1.1.1), by refine rN ?_; exact Kd.aU (fN (fN (Kd.BR (p := ⟨aJ, 1, none⟩) (Kd.BR (p := ⟨aJ, 0, none⟩) (Kd.aU (Kd.aU Cl.1 (fun k_ hk => (⟨hk, hk.2.2.1⟩ : _ ∧ k_ ≠ aJ))) (fun k_ hk => (⟨hk, hk.1.2.2.2.2⟩ : _ ∧ k_ ≠ sL))) (fun _ hk => hk.1.2) (.slice TF dD.length UF)) (fun _ hk => hk.1.2) (.slice YZ L0.length Ad)))) (fun _ hk => ⟨hk.1.1.1, hk.1.1.2.1⟩), zH⟩
 ·refine cR sL 31 #[.slice TG wU.length UH, .slice Z0 I0.length Ae] (by refine rB ?_; refine eH (cs := #[.slice TG wU.length UH, .slice none 0 0]) ?_ 1 _ rfl; refine rB ?_; refine eH (cs := #[.slice none 0 0, .slice none 0 0]) ?_ 0 _ rfl; refine rB ?_; refine dY ?_ qM.1 _; refine rB ?_; refine dY ?_ qM.1 _; refine rB ?_; exact jV.1) Try.underlying31 ?_
  exact ⟨_, _, eR, by refine rR ?_; exact Kd.aM (fR (fR (Kd.qO (p := ⟨aJ, 1, none⟩) (Kd.qO (p := ⟨aJ, 0, none⟩) (Kd.fK (tR xR a3) jV.1 (by decide)) (fun _ hk => hk.1.2) (.slice TG wU.length UH)) (fun _ hk => hk.1.2) (.slice Z0 I0.length Ae)))) (fun _ hk => hk.1.1.1), by refine rN ?_; exact Kd.aU (fN (fN (Kd.BR (p := ⟨aJ, 1, none⟩) (Kd.BR (p := ⟨aJ, 0, none⟩) (Kd.aU (Kd.aU wV.1 (fun k_ hk => (⟨hk, hk.2.2.1⟩ : _ ∧ k_ ≠ aJ))) (fun k_ hk => (⟨hk, hk.1.2.2.2.2⟩ : _ ∧ k_ ≠ sL))) (fun _ hk => hk.1.2) (.slice TG wU.length UH)) (fun _ hk => hk.1.2) (.slice Z0 I0.length Ae)))) (fun _ hk => ⟨hk.1.1.1, hk.1.1.2.1⟩), zH⟩
 refine cR sL 31 #[.slice TH QW.length UI, .slice Z1 YD.length Af] (by refine rB ?_; refine eH (cs := #[.slice TH QW.length UI, .slice none 0 0]) ?_ 1 _ rfl; refine rB ?_; refine eH (cs := #[.slice none 0 0, .slice none 0 0]) ?_ 0 _ rfl; refine rB ?_; refine dY ?_ qM.1 _; refine rB ?_; refine dY ?_ qM.1 _; refine rB ?_; exact jV.1) Try.underlying31 ?_
 exact ⟨_, _, eR, by refine rR ?_; exact Kd.aM (fR (fR (Kd.qO (p := ⟨aJ, 1, none⟩) (Kd.qO (p := ⟨aJ, 0, none⟩) (Kd.fK (tR vX a3) jV.1 (by decide)) (fun _ hk => hk.1.2) (.slice TH QW.length UI)) (fun _ hk => hk.1.2) (.slice Z1 YD.length Af)))) (fun _ hk => hk.1.1.1), by refine rN ?_; exact Kd.aU (fN (fN (Kd.BR (p := ⟨aJ, 1, none⟩) (Kd.BR (p := ⟨aJ, 0, none⟩) (Kd.aU (Kd.aU WW.1 (fun k_ hk => (⟨hk, hk.2.2.1⟩ : _ ∧ k_ ≠ aJ))) (fun k_ hk => (⟨hk, hk.1.2.2.2.2⟩ : _ ∧ k_ ≠ sL))) (fun _ hk => hk.1.2) (.slice TH QW.length UI)) (fun _ hk => hk.1.2) (.slice Z1 YD.length Af)))) (fun _ hk => ⟨hk.1.1.1, hk.1.1.2.1⟩), zH⟩
def kH.l0 : Nat → Int → List Int → Int → List ByteArray → List (S56) → Option (List ByteArray × (List (S56)) × Int)
 | 0, _, _, _, _, _ => none
 | k + 1, d, e, g, b, c => if d > 0 then ((bM.f k e g b c).bind fun a => ((tJ.f k b c a.1 a.2.1 a.2.2.1).bind fun h => (kH.l0 k (wrap64 (d - 1)) e a.2.2.2 h.1 h.2))) else (some (b, c, g))
def kH.f (k : Nat) (d4 : List Int) (hG : Int) : Option (List ByteArray × (List (S56)) × Int) := (fZ.f k d4 hG).bind fun a => ((bE.f k d4 a.2.2 3).bind fun b => (if b.1 = 0 then ((dM.f k d4 b.2 a.1 ([] : List (S56))).bind fun c => (some (c.1, c.2.1, c.2.2))) else ((bE.f k d4 b.2 24).bind fun d => (kH.l0 k d.1 d4 d.2 a.1 ([] : List (S56))))))
theorem kH.calls (k : Nat) (g : Nat) (d4 : List Int) (hG : Int) (r1 : List ByteArray) (r2 : List (S56)) (r3 : Int) (w0 w : World) (hI : aD w0 w g d4 hG) (hB : Below w0.heap.size w0 w) (h : kH.f k d4 hG = some (r1, r2, r3)) :
  Calls Try.prog 119 #[.pointer (some ⟨g, 0, none⟩)] w fun e w' => ∃ v0_ v1_ : Value, e = .returned (.agg #[v0_, v1_]) ∧ Kd.R Kd.string 9 w' w.heap.size (fun k_ => (w.heap.size ≤ k_)) v0_ r1 ∧ Kd.N k56 56 w' w.heap.size (F10 w v0_) v1_ r2 ∧ aD w0 w' g d4 r3 ∧ Below w0.heap.size w0 w' ∧ aW w w' g none := by
 have hu31 := Try.underlying31
 have gJ := am hI
 have HK := am (aW.refl w g none)
 have HL := am hB.size
 clear hI
 have HW0 := am hB.size
 have HB := am hB
 clear hB
 unfold kH.f at h
 have H := h
 clear h
 obtain ⟨⟨kQ, fI, fW⟩, A2, H⟩ := bd H
 dsimp only at H
 obtain ⟨⟨vD, dD⟩, A3, H⟩ := bd H
 dsimp only at H
 refine iq H ?_ ?_ <;> clear H <;> intro c4 vT Gh H
 obtain ⟨⟨l6, oS, wU⟩, A5, H⟩ := bd H
 dsimp only at H
 obtain ⟨rfl, rfl, rfl⟩ := sZ3 H
 repeat clear H
 have Db := trivial
 rotate_left
 obtain ⟨⟨Oj, eV⟩, ls, H⟩ := bd H
 dsimp only at H
 have H' := am H
 repeat clear H
 have Dc := trivial
 rotate_left
 all_goals
  go_enter Try.func119, Try.ntmps119
  go_wp2_with (first | ((with_reducible refine gD 2 ?_); refine bX 2 #[.slice none 0 0, .slice none 0 0] 31 ?_; intro aJ hg aJN hbox hb; replace HB := bS BJ hb; have a3 := am hbox; have gH := am (QS : w.heap.size ≤ aJ); have iE := am (Nat.le_trans HW0.out (QS : w.heap.size ≤ aJ) : w0.heap.size ≤ aJ); replace HK := kU w g BK hb; have l7 := am (by rw [hg]; exact Nat.ne_of_lt (aD.lt (show aD w0 _ g d4 hG from tH)) : g ≠ aJ); have fF := am (by rw [hg]; exact Nat.ne_of_gt (aD.lt (show aD w0 _ g d4 hG from tH)) : aJ ≠ g); replace gJ := am (aD.below tH hb); clear hb hbox hg) | ((with_reducible refine gC 128 ?_); refine cE (some 6) Try.func128 (fZ.calls k g d4 hG kQ fI fW w0 _ (CW) (VZ) A2.out) ?_; rintro e aJO ⟨Hq, rfl, hD, hi, hb, hk⟩; refine ⟨_, rfl, ?_⟩; replace a3 := kb aQ hk fF; have mG := am (Kd.cO (Kd.jK (M := fun k_ => (w.heap.size ≤ k_)) hD (kz w g M9) (fun k_ h_ => h_)) (kz w g M9)); replace HK := kT w g M9 hk; replace HB := am hb; replace gJ := am hi; clear hb hk hi hD) | ((with_reducible refine gD 3 ?_); refine bX 3 #[.slice none 0 0, .slice none 0 0] 31 ?_; intro gX hg aJP hbox hb; replace mG := RB NH hb; replace HB := bS VZ hb; have bZ := am hbox; have MO := am (QR : w.heap.size ≤ gX); have MN := am (Nat.le_trans HW0.out (QR : w.heap.size ≤ gX) : w0.heap.size ≤ gX); replace HK := kU w g M9 hb; have iN := nL aQ hg; have kS := nG aQ hg; replace a3 := bB aQ hb; have mY := am (by rw [hg]; exact Nat.ne_of_lt (aD.lt (show aD w0 _ g d4 fW from CW)) : g ≠ gX); have jJ := am (by rw [hg]; exact Nat.ne_of_gt (aD.lt (show aD w0 _ g d4 fW from CW)) : gX ≠ g); replace gJ := am (aD.below CW hb); clear hb hbox hg; obtain ⟨OU, PM, dn⟩ := Kd.bN mG.1; subst dn; have aDV := nZ2 kS iN jJ mY; have qg := cz2 bZ) | ((with_reducible refine gC 100 ?_); revert Db; intro Db; refine cQ (some 8) Try.func100 (bE.calls k g d4 fW 3 vD dD w0 _ (yF) (JD) A3.out) ?_; rintro aJQ ⟨hi, hb, hk⟩; replace a3 := am (aW.blk hk (g' := aJ) (o := .cells #[.slice none 0 0, .slice none 0 0] 31 (0, 0)) Nv fF.1 (by simp)); replace mG := am (Kd.aM (Kd.lQ (aD.apart (show aD w0 _ g d4 fW from yF) (by refine rR ?_; exact (Kd.aM (fR (fR (tR mG bZ))) (fun _ h_ => h_.1))) (by decide)) hk (fun _ h => h.2)) (fun _ h => h.1)); replace bZ := am (aW.blk hk (g' := gX) (o := .cells #[.slice OU kQ.length PM, .slice none 0 0] 31 (0, 0)) (qP bZ) jJ.1 (by simp)); replace HK := kT w g wM hk; replace HB := am hb; replace gJ := am hi; clear hb hk hi; have aDW := cz2 bZ) | ((with_reducible refine gC 129 ?_); revert Db; intro Db; refine cE (some 12) Try.func129 (dM.calls k g d4 dD (fun k_ => some k_ = (.slice OU kQ.length PM : Value).ownBlock) (.slice OU kQ.length PM) kQ _ _ ([] : List (S56)) l6 oS wU w0 _ (yF) (JD) (Kd.cO (Kd.JU rfl mG.1) HL.out) Kd.ZA (Nat.le_refl _) rfl rfl A5.out) ?_; rintro e aJR ⟨rQ, WM, rfl, hD, rM, hi, hb, hkp⟩; refine ⟨_, rfl, ?_⟩; have fX := am (Kd.aM (ok' := fun k_ => (w.heap.size ≤ k_)) (Kd.Qz (d := Kd.string) (b := w0.heap.size) (b' := w.heap.size) (fun _ _ _ _ h_ => h_) hD (fun k_ e_ => Or.elim (hD.1 k_ e_) (fun hs_ => (fun e_ => Kd.bL mG.1 k_ e_.symm) hs_) (fun hn_ => Nat.le_trans (kz w g wM) hn_))) (fun k_ hk_ => Or.elim hk_ (fun hs_ => (mG.1.1 k_ (hs_).symm).1) (fun hn_ => (Nat.le_trans (kz w g wM) hn_)))); have pQ := am (Kd.l9 (Kd.aU (ok' := F13 w rQ aJ gX g) rM (fun k_ hk_ => ⟨Or.elim hk_.1 (fun hs_ => (mG.1.1 k_ (hs_).symm).1) (fun hn_ => (Nat.le_trans (kz w g wM) hn_)), hk_.2, Or.elim hk_.1 (fun hs_ => fun e_ => (Kd.R_ne mG.1 a3.1 (by decide)) (by rw [← e_]; exact hs_)) (fun hn_ => (fB aQ k_ hn_)), Or.elim hk_.1 (fun hs_ => fun e_ => (Kd.R_ne mG.1 bZ.1 (by decide)) (by rw [← e_]; exact hs_)) (fun hn_ => (fB sN k_ hn_)), Or.elim hk_.1 (fun hs_ => fun e_ => (aD.own_ne gJ.out mG.1 (by decide)) (by rw [← e_]; exact hs_)) (fun hn_ => (aD.fresh yF k_ hn_))⟩)) (kz w g wM)); replace gJ := am hi; replace a3 := am (PD aQ hkp (fun hs_ => Or.elim hs_ (fun hs_ => (fun e_ => (Kd.R_ne mG.1 a3.1 (by decide)) e_) hs_) (fun e_ => fF.1 e_))); replace bZ := am (PD sN hkp (fun hs_ => Or.elim hs_ (fun hs_ => (fun e_ => (Kd.R_ne mG.1 bZ.1 (by decide)) e_) hs_) (fun e_ => jJ.1 e_))); replace HK := am (Kept.ve wM hkp (fun k_ hs_ => Or.elim hs_ (fun hs_ => (fun e_ => .inr (Kd.bL mG.1 k_ e_.symm)) hs_) (fun e_ => .inl e_))); replace HB := am hb; clear mG; clear hb hkp hD rM; obtain ⟨Ym, bw, dq⟩ := Kd.bN fX.1; subst dq; have aDX := nZ1 fF l7; have aDY := cz2 a3; obtain ⟨Yn, bx, dr⟩ := Kd.iJ pQ.1; subst dr) | ((with_reducible refine gC 100 ?_); revert Dc; intro Dc; refine cQ (some 8) Try.func100 (bE.calls k g d4 fW 3 vD dD w0 _ (yF) (JD) A3.out) ?_; rintro aJS ⟨hi, hb, hk⟩; replace a3 := am (aW.blk hk (g' := aJ) (o := .cells #[.slice none 0 0, .slice none 0 0] 31 (0, 0)) Nv fF.1 (by simp)); replace mG := am (Kd.aM (Kd.lQ (aD.apart (show aD w0 _ g d4 fW from yF) (by refine rR ?_; exact (Kd.aM (fR (fR (tR mG bZ))) (fun _ h_ => h_.1))) (by decide)) hk (fun _ h => h.2)) (fun _ h => h.1)); replace bZ := am (aW.blk hk (g' := gX) (o := .cells #[.slice OU kQ.length PM, .slice none 0 0] 31 (0, 0)) (qP bZ) jJ.1 (by simp)); replace HK := kT w g wM hk; replace HB := am hb; replace gJ := am hi; clear hb hk hi) | ((with_reducible refine gC 100 ?_); revert Dc; intro Dc; refine cQ (some 14) Try.func100 (bE.calls k g d4 dD 24 Oj eV w0 _ (yF) (JD) ls.out) ?_; rintro aJT ⟨hi, hb, hk⟩; replace a3 := kb aQ hk fF; replace mG := iR yF NH hk; replace bZ := kb sN hk jJ; replace HK := kT w g wM hk; replace HB := am hb; replace gJ := am hi; clear hb hk hi))
 ·refine cR aJ 31 #[.slice Ym l6.length bw, .slice Yn oS.length bx] (qP a3) Try.underlying31 ?_
  exact ⟨_, _, eR, mR fX a3, by refine rN ?_; exact Kd.aU (fN (fN (Kd.aU pQ.1 (fun k_ hk => (⟨hk, hk.2.2.1⟩ : _ ∧ k_ ≠ aJ))))) (fun _ hk => ⟨hk.1.1, hk.1.2.1⟩), yF, JD, wM⟩
 go_loopg [4] k (fun kq v4 w' => ∃ (mI : Int) (n3 : Int) (sA : List ByteArray) (vR : List (S56)) (OP : Value) (F9 : Value), v4 = .int .i64 mI ∧ aA (kH.l0 kq mI d4 n3 sA vR = some (r1, r2, r3)) ∧ aA (kq ≤ k) ∧ aA (Kd.R Kd.string 9 w' w.heap.size (fun k_ => (w.heap.size ≤ k_)) OP sA) ∧ aA (Kd.N k56 56 w' w.heap.size (F13 w OP aJ gX g) F9 vR) ∧ aA (w'.heap[aJ]? = some (.cells #[(.slice none 0 0), (.slice none 0 0)] 31 (0, 0))) ∧ aA (w'.heap[gX]? = some (.cells #[OP, F9] 31 (0, 0))) ∧ aA (aD w0 w' g d4 n3) ∧ aA (aW w w' g none) ∧ aA (Below w0.heap.size w0 w'))
 case atStart => exact ⟨(Oj), (eV), (kQ), (([] : List (S56))), (.slice OU kQ.length PM), (.slice none 0 0), dH, H', ⟨Nat.le_refl _⟩, ⟨by refine rR ?_; exact Kd.aM mG.1 (fun _ hk => hk.1)⟩, ⟨eN⟩, ⟨rB a3.1⟩, ⟨rB bZ.1⟩, ⟨yF⟩, ⟨wM⟩, ⟨JD⟩⟩
 clear H'
 try clear c4
 try clear vT
 try clear Gh
 try clear qg
 obtain ⟨mI, n3, sA, vR, OP, F9, rfl, HA, HK1, bT, bC, a3, bZ, gJ, HK, HB⟩ := hrel
 cases gk with
 | zero => exact absurd HA.out (by simp [kH.l0])
 | succ k1 =>
  have H := HA.out
  clear HA
  simp only [kH.l0] at H
  by_cases jx : mI > 0
  ·rw [if_pos jx] at H
   have MX : decide (0 < mI) = true := decide_eq_true jx
   clear jx
   obtain ⟨⟨I0, uR, wQ, zI⟩, xg, H⟩ := bd H
   dsimp only at H
   obtain ⟨⟨o9, wR⟩, ju, H⟩ := bd H
   dsimp only at H
   have H' := am H
   repeat clear H
   try go_wp2
   replace bT := RD bT
   replace bC := ND bC
   replace a3 := BD a3
   replace bZ := BD bZ
   replace gJ := am (aD.drew gJ.out)
   replace HK := am (jO HK.out)
   replace HB := am (aV HB.1)
   obtain ⟨Py, Rt, sr⟩ := Kd.bN bT.1
   (first | subst sr | (obtain ⟨f4_, f5_⟩ := sj sr; subst f4_; subst f5_))
   obtain ⟨YX, Aa, Ap⟩ := Kd.iJ bC.1
   (first | subst Ap | (obtain ⟨f4_, f5_⟩ := sj Ap; subst f4_; subst f5_))
   refine sT [5] 6 (uA2 bZ) (fun hHeld => ?_)
   generalize wr.drew = Pv at bT bC a3 bZ gJ HK HB hHeld ⊢
   refine pU0 1 (some 20) ?_
   refine tK2_ 0 (some 19) ?_
   refine tK2_ 2 (some 21) ?_
   refine oM 3 (some 22) fun K hK => ?_
   refine gE Try.func121 (bM.calls k1 g d4 n3 _ _ sA _ _ vR I0 uR wQ zI w0 _ (yF) (JD) (pC (Kd.aT bT.1).2.2) ((Kd.aT bT.1).2.1) (oO (aD.own_ne gJ.out bT.1 (by decide))) (Kd.ML (base := 0) (Kd.N_V (Kd.aU (ok := fun k_ => (((w.heap.size ≤ k_)) ∧ (some k_ ≠ (.slice Py sA.length Rt : Value).ownBlock ∧ (k_ ≠ aJ ∧ (k_ ≠ gX ∧ k_ ≠ g))))) (rN bC.1) (fun k_ hk_ => (⟨hk_, hk_.2.2.2.2⟩ : _ ∧ k_ ≠ g)))) (fun _ h_ => h_.2)) ((Kd.cB bC.1).2.1) xg.out) ?_
   rintro e Ou ⟨Bn, rfl, hD, hi, hb, hk⟩
   refine ⟨_, rfl, ?_⟩
   replace bC := am (Kd.aU (Kd.nD (Kd.TW (Kd.aU (ok := fun k_ => (((w.heap.size ≤ k_)) ∧ (some k_ ≠ (.slice Py sA.length Rt : Value).ownBlock ∧ (k_ ≠ aJ ∧ (k_ ≠ gX ∧ k_ ≠ g))))) (rN bC.1) (fun k_ hk_ => (⟨hk_, hk_.2.2.2.2⟩ : _ ∧ k_ ≠ g))) hk) (Kd.bL hD)) (fun _ h_ => h_.1))
   replace a3 := kb aQ hk fF
   replace bZ := kb sN hk jJ
   have sW := am (Kd.cO (Kd.eF (Kd.jK (M := fun k_ => (w.heap.size ≤ k_)) hD (kz w g wM) (fun k_ h_ => h_)) (Kd.R_lt qX)) (kz w g wM))
   replace bT := am (Kd.aM (Kd.EM (Kd.EL (aD.apart (show aD w0 _ g d4 n3 from yF) qX (by decide)) hk) (Kd.bL hD)) (fun _ h_ => h_.1))
   replace HK := kT w g wM hk
   replace HB := am hb
   replace gJ := am hi
   clear hb hk hi hD
   obtain ⟨Ic, Ab, Aq⟩ := Kd.bN sW.1
   (first | subst Aq | (obtain ⟨f4_, f5_⟩ := sj Aq; subst f4_; subst f5_))
   refine nK hK (uA2 bZ).1 fun hHeld => ?_
   clear hK K
   refine oM 4 (some 23) fun K hK => ?_
   refine gE Try.func130 (tJ.calls k1 _ _ sA _ _ vR I0 uR _ _ wQ o9 wR _ (pC (Kd.aT bT.1).2.2) ((Kd.aT bT.1).2.1) (pC (Kd.cB bC.1).2.2) ((Kd.cB bC.1).2.1) (pC (Kd.aT sW.1).2.2) ((Kd.aT sW.1).2.1) ju.out) ?_
   rintro e Hx ⟨I1, Ot, rfl, hD, rM, hb⟩
   refine ⟨_, rfl, ?_⟩
   have lE := am (Kd.cO (Kd.eF (Kd.eF (Kd.jK (M := fun k_ => (w.heap.size ≤ k_)) (Kd.aM (ok' := fun k_ => True) hD (fun _ hk_ => trivial)) (kz w g wM) (fun k_ h_ => h_)) (Kd.R_lt qX)) (Kd.R_lt (rR sW.1))) (kz w g wM))
   have nI := am (Kd.l9 (Kd.aU (ok' := F43 w I1 (.slice Py sA.length Rt) (.slice YX vR.length Aa) (.slice Ic wQ.length Ab) aJ gX g) rM (fun k_ hk_ => ⟨(Nat.le_trans (kz w g wM) hk_.1), hk_.2, (Kd.fresh' (Kd.R_lt qX) k_ hk_.1), (Kd.fresh' (Kd.N_lt (rN bC.1)) k_ hk_.1), (Kd.fresh' (Kd.R_lt (rR sW.1)) k_ hk_.1), (fB aQ k_ hk_.1), (fB sN k_ hk_.1), (aD.fresh yF k_ hk_.1)⟩)) (kz w g wM))
   replace bT := am (Kd.dJ qX (Kd.bL hD) hb)
   replace bC := am (Kd.aU (Kd.nD (Kd.nD (Kd.FY (rN bC.1) hb) (Kd.bL hD)) (Kd.uZ rM)) (fun _ h_ => h_.1))
   replace sW := am (Kd.dJ (rR sW.1) (Kd.bL hD) hb)
   replace a3 := bB aQ hb
   replace bZ := bB sN hb
   replace HK := kU w g wM hb
   replace HB := bS JD hb
   replace gJ := am (aD.below yF hb)
   clear hb hD rM
   obtain ⟨a4J, a6P, ss⟩ := Kd.bN lE.1
   (first | subst ss | (obtain ⟨f4_, f5_⟩ := sj ss; subst f4_; subst f5_))
   obtain ⟨Ya, bj, Ly⟩ := Kd.iJ nI.1
   (first | subst Ly | (obtain ⟨f4_, f5_⟩ := sj Ly; subst f4_; subst f5_))
   refine nK hK (uA2 bZ).1 fun hHeld => ?_
   clear hK K
   refine Ff (i := 5) (N := none) (bz 6 63) rfl rfl (by kernel_rfl) (by decide) (fun K hK => ?_)
   have aNM : Hx.cell? ⟨gX, 0, none⟩ = some (.slice Py sA.length Rt) := (bF bZ.1 0).trans rfl
   have aG9 := fV bZ.1 0
   have a2G := iN.1
   have a0Y := kS.1
   have aNN : Hx.cell? ⟨gX, 1, none⟩ = some (.slice YX vR.length Aa) := (bF bZ.1 1).trans rfl
   have aGA := fV bZ.1 1
   have a2H := iN.1
   have a0Z := kS.1
   refine wP (w1 := ?_) (by rfl) rfl ?_ ?_
   rotate_left
   ·go_simp
    rfl
   refine hK.out _ _ ?_
   clear hK K
   refine JY (by kernel_rfl) ?_
   try go_wp2
   go_roundg k1
   case measure => have := HK1.out; omega
   case rel => exact ⟨(wrap64 (mI - 1)), (zI), (o9), (wR), (.slice a4J o9.length a6P), (.slice Ya wR.length bj), dH, H', ⟨by have := HK1.out; omega⟩, ⟨by refine rR ?_; exact Kd.aM (fR (fR (tR lE bZ))) (fun _ hk => hk.1.1.1.1)⟩, ⟨by refine rN ?_; exact Kd.aU (fN (fN (Kd.aU nI.1 (fun k_ hk => (⟨hk, hk.2.2.2.2.2.2.1⟩ : _ ∧ k_ ≠ gX))))) (fun _ hk => ⟨hk.1.1, ⟨hk.1.2.1, ⟨hk.1.2.2.2.2.2.1, ⟨hk.1.2.2.2.2.2.2.1, hk.1.2.2.2.2.2.2.2⟩⟩⟩⟩)⟩, ⟨qF a3 iN⟩, ⟨qP bZ⟩, ⟨yF⟩, ⟨wM⟩, ⟨JD⟩⟩
  ·rw [if_neg jx] at H
   have MX : decide (0 < mI) = false := decide_eq_false jx
   clear jx
   obtain ⟨rfl, rfl, rfl⟩ := sZ3 H
   repeat clear H
   have yk := nZ2 kS iN jJ mY
   have pw := cz2 bZ
   obtain ⟨Yb, Lj, cr⟩ := Kd.bN bT.1
   subst cr
   have Z47 := nZ1 fF l7
   have Z48 := cz2 a3
   obtain ⟨a4L, a6R, a7U⟩ := Kd.iJ bC.1
   subst a7U
   go_wp2
   refine cR aJ 31 #[.slice Yb sA.length Lj, .slice a4L vR.length a6R] (qP a3) Try.underlying31 ?_
   exact ⟨_, _, eR, mR bT a3, by refine rN ?_; exact Kd.aU (fN (fN (Kd.aU bC.1 (fun k_ hk => (⟨hk, hk.2.2.1⟩ : _ ∧ k_ ≠ aJ))))) (fun _ hk => ⟨hk.1.1, hk.1.2.1⟩), yF, JD, wM⟩
theorem ik {α : Type} {d : Kd α} {e base : Nat} {W : World} {ok : Nat → Prop} {v1 v1' v2 : Value} {xs : List α} (hs : ∀ k, v1.ownBlock = some k → v2.ownBlock ≠ some k) (hat : v1'.ownBlock = v1.ownBlock ∨ ∃ b, v1'.ownBlock = some b ∧ W.heap.size ≤ b) (h2 : d.R e W base ok v2 xs) : ∀ k, v1'.ownBlock = some k → v2.ownBlock ≠ some k := fun k e1 e2 => hat.elim (fun e => hs k (e.symm.trans e1) e2) (fun hb => by obtain ⟨b, eb, hb⟩ := hb; have h := Kd.R_lt h2 k e2; rw [eb] at e1; injection e1 with e1; omega)
theorem il {α : Type} {d : Kd α} {e base : Nat} {W : World} {ok : Nat → Prop} {v1 v2 v2' : Value} {xs : List α} (hs : ∀ k, v1.ownBlock = some k → v2.ownBlock ≠ some k) (hat : v2'.ownBlock = v2.ownBlock ∨ ∃ b, v2'.ownBlock = some b ∧ W.heap.size ≤ b) (h1 : d.R e W base ok v1 xs) : ∀ k, v1.ownBlock = some k → v2'.ownBlock ≠ some k := fun k e1 e2 => hat.elim (fun e => hs k e1 (e.symm.trans e2)) (fun hb => by obtain ⟨b, eb, hb⟩ := hb; have h := Kd.R_lt h1 k e1; rw [eb] at e2; injection e2 with e2; omega)
def BB.f (a0 : Int) : Option (ByteArray) := some (strOfNums (([(wrap64 (48 + a0)) % 256] : List Int)))
theorem BB.calls (a0 : Int) (r : ByteArray) (w : World) (h : BB.f a0 = some r) :
  Calls Try.prog 131 #[.int .i64 a0] w fun e w' => e = .returned (.string r) ∧ Below w.heap.size w w' := by
 have HB := am (Below.refl w.heap.size w)
 unfold BB.f at h
 have H := h
 clear h
 obtain ⟨WO, FI⟩ := yv (([(wrap64 (48 + a0)) % 256] : List Int)); first | replace H := bW FI H | rw [← FI.1] at H
 obtain rfl := Option.some.inj H
 repeat clear H
 go_enter Try.func131, Try.ntmps131
 go_wp2_with (first | ((with_reducible refine jD (N := 6) rfl ?_); refine Kd.Dl (Kd.int .u8) _ 5 ?hg (N := 6) ?hd (xs := ([(wrap64 (48 + a0)) % 256] : List Int)) (inner := [.int .u8 ((wrap64 (48 + a0)) % 256)]) (ok := fun _ => True) (okp := fun _ => True) ?hr ?hp (fun _ hk => hk) trivial (Below.refl _ _) (Nat.le_refl _) (by simp) ?_; (case hd => rfl); (case hg => rfl); (case hr => first | (go_simp; done) | (go_simp; rfl)); (case hp => exact (Reps.one (show Kd.M (Kd.int .u8) _ _ _ ((wrap64 (48 + a0)) % 256) [.int .u8 ((wrap64 (48 + a0)) % 256)] from rfl) (Reps.none _ _))); intro Hp w2 uw hb hg_ hnew_; clear hg_ hnew_; (first | rw [← FI.out] at uw | (simp only [Int.reduceToNat] at uw; rw [← FI.out] at uw)); have l5 := am (Kd.cO uw (aG eI)); replace HB := bS eI hb; clear hb uw; have hcv4 := Be (P := Try.prog) Try.underlying51 Try.underlying5 Try.underlying9 (Kd.Q4 l5.1)))
 go_ret
 exact ⟨eR, eI⟩
theorem U6 {w : World} {k g t : Nat} {cs : Array Value} (h : ∃ q, q ∈ 56 :: (k56).E ∧ ∃ cells, w.heap[k]? = some (.cells cells q (0, 0))) (hb : w.heap[g]? = some (.cells cs t (0, 0))) (ht : ∀ q ∈ 56 :: (k56).E, q ≠ t) : k ≠ g := by
 obtain ⟨q, hq, cells, hc⟩ := h
 intro e
 subst e
 rw [hb] at hc
 injection hc with hc
 injection hc with _ hc _
 exact ht q hq hc.symm
theorem fq {w0 w : World} {k g : Nat} {f0 : List Int} {f1 : Int} (h : ∃ q, q ∈ 56 :: (k56).E ∧ ∃ cells, w.heap[k]? = some (.cells cells q (0, 0))) (hI : aD w0 w g f0 f1) : k ≠ g := by
 obtain ⟨_, _, hg, _⟩ := hI
 exact U6 h hg (by decide)
theorem fo {w0 w : World} {g : Nat} {f0 : List Int} {f1 : Int} (hI : aD w0 w g f0 f1) : g < w.heap.size := by
 obtain ⟨_, _, hg, _⟩ := hI
 exact yB hg
theorem toN_ {w w' : World} {e : Ending} {r1 : List ByteArray} {r2 : List S56} {Q R S : Prop} (h : ∃ v0_ v1_ : Value, e = .returned (.agg #[v0_, v1_]) ∧ Kd.R Kd.string 9 w' w.heap.size (fun _ => True) v0_ r1 ∧ Kd.S k56 56 w' w.heap.size (fun k_ => some k_ ≠ (v0_ : Value).ownBlock) v1_ r2 ∧ Q ∧ R ∧ S) :
  ∃ v0_ v1_ : Value, e = .returned (.agg #[v0_, v1_]) ∧ Kd.R Kd.string 9 w' w.heap.size (fun k_ => (w.heap.size ≤ k_)) v0_ r1 ∧ Kd.N k56 56 w' w.heap.size (fun k_ => (w.heap.size ≤ k_) ∧ some k_ ≠ (v0_ : Value).ownBlock) v1_ r2 ∧ Q ∧ R ∧ S := by
 obtain ⟨v0, v1, h1, h2, h3, h4⟩ := h
 exact ⟨v0, v1, h1, Kd.aM (Kd.rG h2) (fun _ hk => hk.2.1), Kd.aU (Kd.S_N (Kd.rJ h3)) (fun _ hk => ⟨hk.2.1, hk.1⟩), h4⟩
mutual
def bJ.j0 : Nat → Bool → List Int → Int → List ByteArray → List (S56) → Option (List ByteArray × (List (S56)) × Int)
 | 0, _, _, _, _, _ => none
 | k + 1, n, d, g, e, a => if n = true then ((fU.f k d g (([(⟨#[]⟩ : ByteArray), (⟨#[65]⟩ : ByteArray), (⟨#[97]⟩ : ByteArray), (⟨#[122, 122]⟩ : ByteArray)] : List ByteArray))).bind fun h => (if e.length < 8796093022208 then (some ((e ++ [h.1]), a, h.2)) else (none))) else ((bE.f k d g (a.length : Int)).bind fun b => ((bE.f k d b.2 5).bind fun c => (if c.1 = 0 then ((fU.f k d c.2 (([(⟨#[]⟩ : ByteArray), (⟨#[66]⟩ : ByteArray), (⟨#[122, 122]⟩ : ByteArray), (⟨#[97]⟩ : ByteArray)] : List ByteArray))).bind fun i => (if 0 ≤ b.1 then (if b.1 < (a.length : Int) then (some (e, (a.set (b.1 : Int).toNat (⟨i.1, (aC a b.1).f1, (aC a b.1).f2⟩ : S56)), i.2)) else (none)) else (none))) else (if c.1 = 1 then (if 0 ≤ b.1 then (if b.1 < (a.length : Int) then ((fU.f k d c.2 (([(⟨#[]⟩ : ByteArray), (⟨#[122, 122]⟩ : ByteArray), (⟨#[107, 101, 103]⟩ : ByteArray), (⟨#[119]⟩ : ByteArray)] : List ByteArray))).bind fun j => (if ((aC a b.1).f2).length < 8796093022208 then (some (e, (a.set (b.1 : Int).toNat (⟨(aC a b.1).f0, (aC a b.1).f1, (((aC a b.1).f2) ++ [j.1])⟩ : S56)), j.2)) else (none))) else (none)) else (none)) else (if c.1 = 2 then (if 0 ≤ b.1 then (if b.1 < (a.length : Int) then ((fU.f k d c.2 (([(⟨#[]⟩ : ByteArray), (⟨#[122, 122]⟩ : ByteArray), (⟨#[107, 101, 103]⟩ : ByteArray), (⟨#[119]⟩ : ByteArray)] : List ByteArray))).bind fun l => (if ((aC a b.1).f1).length < 8796093022208 then (some (e, (a.set (b.1 : Int).toNat (⟨(aC a b.1).f0, (((aC a b.1).f1) ++ [l.1]), (aC a b.1).f2⟩ : S56)), l.2)) else (none))) else (none)) else (none)) else (if c.1 = 3 then (if 0 ≤ b.1 then (if b.1 < (a.length : Int) then (if a.length < 2199023255552 then (some (e, a ++ [aC a b.1], c.2)) else (none)) else (none)) else (none)) else ((bE.f k d c.2 2).bind fun m => (bJ.l0 k (wrap64 (5 + m.1)) 0 d m.2 e a))))))))
def bJ.l0 : Nat → Int → Int → List Int → Int → List ByteArray → List (S56) → Option (List ByteArray × (List (S56)) × Int)
 | 0, _, _, _, _, _, _ => none
 | k + 1, b, c, h, d, e, a => if (a.length : Int) < b then ((BB.f c).bind fun g => (if 1 + g.size ≤ 9223372036854775807 then (if a.length < 2199023255552 then (bJ.l0 k b (wrap64 (c + 1)) h d e (a ++ [(⟨(⟨#[122]⟩ : ByteArray) ++ g, ([] : List ByteArray), ([] : List ByteArray)⟩ : S56)])) else (none)) else (none))) else (some (e, a, d))
end
def bJ.f (k : Nat) (d4 : List Int) (hG : Int) (fY : List ByteArray) (mF : List (S56)) : Option (List ByteArray × (List (S56)) × Int) := (dG.f k fY mF).bind fun a => (if (a.2.length : Int) = 0 then (bJ.j0 k true d4 hG a.1 a.2) else ((bE.f k d4 hG 4).bind fun b => (bJ.j0 k (b.1 == 0) d4 b.2 a.1 a.2)))
def bJ.T3 : Bool × List (List Nat × List Nat) := (true, [([], []), ([0], [0]), ([], []), ([], []), ([2, 3], [2, 3]), ([4], [4]), ([1, 5, 4], [1, 5]), ([0, 1, 2, 3, 4, 5, 6], []), ([7, 6, 6, 0, 1, 2, 3, 4, 5, 6], [6, 7])])
def bJ.B3 : List Nat := [0, 1, 0, 0, 12, 28, 63, 127, 255]
theorem bJ.tab3 : rtab .any (opsOf Try.f120 3) = bJ.T3 := by kernel_rfl
theorem bJ.Kq : kM bJ.T3.2 bJ.B3 = true := by kernel_rfl
def bJ.T11 : Bool × List (List Nat × List Nat) := (true, [([], []), ([0], [0]), ([], []), ([2], [2]), ([3], [3]), ([4], [4]), ([5], [5]), ([1, 6, 3], [1, 6]), ([0, 1, 2, 3, 4, 5, 6, 7], []), ([8, 7, 7, 0, 1, 2, 3, 4, 5, 6, 7], [7, 8])])
def bJ.B11 : List Nat := [0, 1, 0, 4, 12, 28, 60, 127, 255, 511]
theorem bJ.vw : rtab .any (opsOf Try.f120 11) = bJ.T11 := by kernel_rfl
theorem bJ.ai : kM bJ.T11.2 bJ.B11 = true := by kernel_rfl
def bJ.T13 : Bool × List (List Nat × List Nat) := (true, [([], []), ([0], [0]), ([], []), ([], []), ([], []), ([3, 4], [3, 4]), ([1, 2, 0, 1, 2, 3, 4, 5], [1, 2]), ([6, 0, 1, 2, 3, 4, 5], [6]), ([7, 5, 5, 0, 1, 2, 3, 4, 5], [5, 7])])
def bJ.B13 : List Nat := [0, 1, 0, 0, 0, 24, 63, 127, 255]
theorem bJ.SY : rtab .any (opsOf Try.f120 13) = bJ.T13 := by kernel_rfl
theorem bJ.LV : kM bJ.T13.2 bJ.B13 = true := by kernel_rfl
def bJ.T15 : Bool × List (List Nat × List Nat) := (true, [([], []), ([0], [0]), ([], []), ([], []), ([3], [3]), ([], []), ([4, 5], [4, 5]), ([6], [6]), ([7], [7]), ([], []), ([], []), ([9, 10], [9, 10]), ([11], [11]), ([8, 12, 11], [8, 12]), ([1, 2, 0, 1, 2, 3, 4, 5, 6, 7, 8, 9, 10, 11, 12, 13], [1, 2]), ([14, 0, 1, 2, 3, 4, 5, 6, 7, 8, 9, 10, 11, 12, 13], [14]), ([15, 13, 13, 0, 1, 2, 3, 4, 5, 6, 7, 8, 9, 10, 11, 12, 13], [13, 15])])
def bJ.B15 : List Nat := [0, 1, 0, 0, 8, 0, 56, 120, 248, 0, 0, 1536, 3584, 8184, 16383, 32767, 65535]
theorem bJ.YF : rtab .any (opsOf Try.f120 15) = bJ.T15 := by kernel_rfl
theorem bJ.P9 : kM bJ.T15.2 bJ.B15 = true := by kernel_rfl
def bJ.T17 : Bool × List (List Nat × List Nat) := (true, [([], []), ([0], [0]), ([], []), ([], []), ([3], [3]), ([], []), ([4, 5], [4, 5]), ([6], [6]), ([7], [7]), ([], []), ([], []), ([9, 10], [9, 10]), ([11], [11]), ([8, 12, 11], [8, 12]), ([1, 2, 0, 1, 2, 3, 4, 5, 6, 7, 8, 9, 10, 11, 12, 13], [1, 2]), ([14, 0, 1, 2, 3, 4, 5, 6, 7, 8, 9, 10, 11, 12, 13], [14]), ([15, 13, 13, 0, 1, 2, 3, 4, 5, 6, 7, 8, 9, 10, 11, 12, 13], [13, 15])])
def bJ.B17 : List Nat := [0, 1, 0, 0, 8, 0, 56, 120, 248, 0, 0, 1536, 3584, 8184, 16383, 32767, 65535]
theorem bJ.vz : rtab .any (opsOf Try.f120 17) = bJ.T17 := by kernel_rfl
theorem bJ.aj : kM bJ.T17.2 bJ.B17 = true := by kernel_rfl
theorem bJ.calls (k : Nat) (g : Nat) (d4 : List Int) (hG : Int) (y8 : Option Addr) (AC : Nat) (fY : List ByteArray) (xO : Option Addr) (xC : Nat) (mF : List (S56)) (r1 : List ByteArray) (r2 : List (S56)) (r3 : Int) (w0 w : World) (hI : aD w0 w g d4 hG) (hB : Below w0.heap.size w0 w) (XV : Kd.C Kd.string w y8 fY.length fY) (XO : fY.length ≤ AC) (hf1_0 : ∀ ad, y8 = some ad → 0 < fY.length → ad.block ≠ g) (N9 : ∀ W_, aW w W_ g none → Kd.C k56 W_ xO mF.length mF) (PU : mF.length ≤ xC) (h : bJ.f k d4 hG fY mF = some (r1, r2, r3)) :
  Calls Try.prog 120 #[.pointer (some ⟨g, 0, none⟩), .agg #[.slice y8 fY.length AC, .slice xO mF.length xC]] w fun e w' => ∃ v0_ v1_ : Value, e = .returned (.agg #[v0_, v1_]) ∧ Kd.R Kd.string 9 w' w.heap.size (fun k_ => (w.heap.size ≤ k_)) v0_ r1 ∧ Kd.N k56 56 w' w.heap.size (F10 w v0_) v1_ r2 ∧ aD w0 w' g d4 r3 ∧ Below w0.heap.size w0 w' ∧ aW w w' g none := by
 have hu31 := Try.underlying31
 have hu56 := Try.underlying56
 obtain ⟨WX, WV⟩ := mZ2 XV XO
 obtain ⟨uF, Io⟩ := mZ2 N9 PU
 clear XV XO N9 PU
 have gJ := am hI
 have HK := am (aW.refl w g none)
 have HL := am hB.size
 clear hI
 have HW0 := am hB.size
 have HB := am hB
 clear hB
 unfold bJ.f at h
 have H := h
 clear h
 obtain ⟨⟨eK, fO⟩, A3, H⟩ := bd H
 dsimp only at H
 have HC4 := am H
 clear H
 go_enter Try.func120, Try.ntmps120
 go_upto_region 2 with (first | ((with_reducible refine gD 3 ?_); refine bX 3 #[.slice y8 fY.length AC, .slice xO mF.length xC] 31 ?_; intro aJ hg w5 hbox hb; replace HB := bS BJ hb; have a3 := am hbox; have gH := am (QS : w.heap.size ≤ aJ); have iE := am (Nat.le_trans HW0.out (QS : w.heap.size ≤ aJ) : w0.heap.size ≤ aJ); replace HK := kU w g BK hb; have l7 := am (by rw [hg]; exact Nat.ne_of_lt (aD.lt (show aD w0 _ g d4 hG from tH)) : g ≠ aJ); have fF := am (by rw [hg]; exact Nat.ne_of_gt (aD.lt (show aD w0 _ g d4 hG from tH)) : aJ ≠ g); replace gJ := am (aD.below tH hb); clear hb hbox hg) | ((with_reducible refine gD 4 ?_); refine bX 4 #[.slice none 0 0, .slice none 0 0] 31 ?_; intro aX hg w6 hbox hb; replace HB := bS VZ hb; have aK := am hbox; have mP := am (QR : w.heap.size ≤ aX); have nX := am (Nat.le_trans HW0.out (QR : w.heap.size ≤ aX) : w0.heap.size ≤ aX); replace HK := kU w g M9 hb; have dP := nL aQ hg; have dQ := nG aQ hg; replace a3 := bB aQ hb; have lZ := am (by rw [hg]; exact Nat.ne_of_lt (aD.lt (show aD w0 _ g d4 hG from CW)) : g ≠ aX); have hJ := am (by rw [hg]; exact Nat.ne_of_gt (aD.lt (show aD w0 _ g d4 hG from CW)) : aX ≠ g); replace gJ := am (aD.below CW hb); clear hb hbox hg; have Z7 := nZ2 dP dQ fF l7; have Z9 := cz2 a3) | ((with_reducible refine gC 89 ?_); refine cE (some 10) Try.func89 (dG.calls k _ _ fY _ _ mF eK fO _ (Kd.OV (⟨#[]⟩ : ByteArray) WX.1 F5 hf1_0) WV.1 (Kd.E5 uF.1 F5) Io.1 A3.out) ?_; rintro e w10 ⟨DU, aA9, rfl, hD, rM, hb⟩; refine ⟨_, rfl, ?_⟩; have nS := am (Kd.cO hD (kz w g F5)); have JO := am (Kd.Rc rM (kz w g F5)); replace a3 := bB aQ hb; replace aK := bB cA hb; replace HK := kU w g F5 hb; replace HB := bS xE hb; replace gJ := am (aD.below qG hb); clear hb hD rM) | ((with_reducible refine gD 5 ?_); refine bX 5 #[.slice none 0 0, .slice none 0 0] 31 ?_; intro gX hg wm hbox hb; replace nS := RB KP hb; replace JO := am (Kd.JV (rS JO.1) hb); replace HB := bS xE hb; have bZ := am hbox; have MO := am (Ti : w.heap.size ≤ gX); have MN := am (Nat.le_trans HW0.out (Ti : w.heap.size ≤ gX) : w0.heap.size ≤ gX); replace HK := kU w g F5 hb; have iN := nL aQ hg; have kS := nG aQ hg; replace a3 := bB aQ hb; have lH := nL cA hg; have oL := nG cA hg; replace aK := bB cA hb; have mY := am (by rw [hg]; exact Nat.ne_of_lt (aD.lt (show aD w0 _ g d4 hG from qG)) : g ≠ gX); have jJ := am (by rw [hg]; exact Nat.ne_of_gt (aD.lt (show aD w0 _ g d4 hG from qG)) : gX ≠ g); replace gJ := am (aD.below qG hb); clear hb hbox hg; obtain ⟨o3, nW, Lv⟩ := Kd.bN nS.1; subst Lv; have Ki := nZ3 kS iN oL lH jJ mY; have Z16 := cz2 bZ; obtain ⟨QG, lA, Lx⟩ := Kd.GU JO.1; subst Lx))
 (try simp only [Act.put, List.setIfInBounds_toArray, List.set_cons_zero, List.set_cons_succ])
 go_cut [19] (fun v19 wc => ∃ (kq : Nat) (Pc : Bool) (LB : Int), v19 = .bool Pc ∧ aA (bJ.j0 kq Pc d4 LB eK fO = some (r1, r2, r3)) ∧ aA (kq ≤ k) ∧ aA (Kd.R Kd.string 9 wc w.heap.size (fun _ => True) (.slice o3 eK.length nW) eK) ∧ aA (Kd.S k56 56 wc w.heap.size (fun k_ => some k_ ≠ ((.slice o3 eK.length nW) : Value).ownBlock) (.slice QG fO.length lA) fO) ∧ aA (wc.heap[aJ]? = some (.cells #[(.slice y8 fY.length AC), (.slice xO mF.length xC)] 31 (0, 0))) ∧ aA (wc.heap[aX]? = some (.cells #[(.slice none 0 0), (.slice none 0 0)] 31 (0, 0))) ∧ aA (wc.heap[gX]? = some (.cells #[(.slice o3 eK.length nW), (.slice QG fO.length lA)] 31 (0, 0))) ∧ aA (aD w0 wc g d4 LB) ∧ aA (aW w wc g none) ∧ aA (Below w0.heap.size w0 wc))
 case first =>
  have H := HC4.1
  clear HC4
  refine iq H ?_ ?_ <;> clear H <;> intro MW vO Lb H
  ·(first | rw [vO] | (simp only [mV, pE]; rw [vO]) | skip)
   have H' := am H
   repeat clear H
   have yh := nZ3 kS iN oL lH jJ mY
   have Z22 := cz2 bZ
   go_wp2
   go_meet
   exact ⟨_, (true), (hG), dH, H', ⟨by first | omega | exact Nat.le_refl _⟩, ⟨mR nS bZ⟩, ⟨mS JO bZ⟩, ⟨qF a3 iN⟩, ⟨qF aK lH⟩, ⟨qP bZ⟩, ⟨oD⟩, ⟨tZ⟩, ⟨xZ⟩⟩
  have Vt : ¬ (fO = []) := fun h_ => MW (by rw [h_]; rfl)
  (first | rw [vO] | (simp only [mV, pE]; rw [vO]) | skip)
  obtain ⟨⟨vD, dD⟩, WP, H⟩ := bd H
  dsimp only at H
  have H' := am H
  repeat clear H
  have Z24 := nZ3 kS iN oL lH jJ mY
  have Z27 := cz2 bZ
  go_wp2_with (first | (go_at_call 100; refine cM (bE.calls k g d4 hG 4 vD dD w0 _ (oD) (xZ) WP.out) ?_; rintro w28 ⟨hi, hb, hk⟩; replace a3 := am (aW.blk hk (g' := aJ) (o := .cells #[.slice y8 fY.length AC, .slice xO mF.length xC] 31 (0, 0)) Nv fF.1 (by simp)); replace aK := am (aW.blk hk (g' := aX) (o := .cells #[.slice none 0 0, .slice none 0 0] 31 (0, 0)) (qF aK lH) hJ.1 (by simp)); replace nS := am (Kd.aM (Kd.lQ (aD.apart (show aD w0 _ g d4 hG from oD) (by refine rR ?_; exact (Kd.aM (fR (fR (tR nS bZ))) (fun _ h_ => h_.1))) (by decide)) hk (fun _ h => h.2)) (fun _ h => h.1)); replace JO := am (Kd.CQ (Kd.Kg (aD.Km (show aD w0 _ g d4 hG from oD) (by refine rS ?_; exact (Kd.CQ (fS (fS (tS JO bZ))) (fun _ h_ => h_.1))) (by decide)) hk (fun _ h => h.2)) (fun _ h => h.1)); replace bZ := am (aW.blk hk (g' := gX) (o := .cells #[.slice o3 eK.length nW, .slice QG fO.length lA] 31 (0, 0)) (qP bZ) jJ.1 (by simp)); replace HK := kT w g tZ hk; replace HB := am hb; replace gJ := am hi; clear hb hk hi))
  go_meet
  exact ⟨_, ((vD == 0)), (dD), dH, H', ⟨by first | omega | exact Nat.le_refl _⟩, ⟨rR nS.1⟩, ⟨rS JO.1⟩, ⟨rB a3.1⟩, ⟨rB aK.1⟩, ⟨rB bZ.1⟩, ⟨oD⟩, ⟨tZ⟩, ⟨xZ⟩⟩
 clear HC4
 try clear Z16
 try clear Z9
 obtain ⟨kq, Pc, LB, rfl, HA, HJ3, bT, bC, a3, aK, bZ, gJ, HK, HB⟩ := hcut
 cases kq with
 | zero => exact absurd HA.out (by simp [bJ.j0])
 | succ kj3 =>
  have H := HA.out
  clear HA
  simp only [bJ.j0] at H
  refine tC H ?_ ?_ <;> (repeat clear H) <;> intro bc H <;> subst bc
  obtain ⟨sS, yP⟩ := yv (([(⟨#[]⟩ : ByteArray), (⟨#[65]⟩ : ByteArray), (⟨#[97]⟩ : ByteArray), (⟨#[122, 122]⟩ : ByteArray)] : List ByteArray)); first | replace H := bW yP H | rw [← yP.1] at H
  obtain ⟨⟨oS, QV⟩, Ca, H⟩ := bd H
  dsimp only at H
  obtain ⟨Jd, H⟩ := cL H
  obtain ⟨YJ, FZ⟩ := yv (eK ++ [oS]); first | replace H := bW FZ H | rw [← FZ.1] at H
  obtain ⟨rfl, rfl, rfl⟩ := sZ3 H
  repeat clear H
  rotate_left
  obtain ⟨⟨eV, I0⟩, A47, H⟩ := bd H
  dsimp only at H
  obtain ⟨⟨uR, wQ⟩, A48, H⟩ := bd H
  dsimp only at H
  refine iq H ?_ ?_ <;> clear H <;> intro ZY XC Ds H
  obtain ⟨FE, I7⟩ := yv (([(⟨#[]⟩ : ByteArray), (⟨#[66]⟩ : ByteArray), (⟨#[122, 122]⟩ : ByteArray), (⟨#[97]⟩ : ByteArray)] : List ByteArray)); first | replace H := bW I7 H | rw [← I7.1] at H
  obtain ⟨⟨o9, YD⟩, A50, H⟩ := bd H
  dsimp only at H
  obtain ⟨rg, H⟩ := cN H
  obtain ⟨aFB, H⟩ := cN H
  obtain ⟨DW, G0⟩ := yv (fO.set (eV : Int).toNat (⟨o9, (aC fO eV).f1, (aC fO eV).f2⟩ : S56)); first | replace H := bW G0 H | rw [← G0.1] at H
  obtain ⟨rfl, rfl, rfl⟩ := sZ3 H
  repeat clear H
  have Z54 := nZ3 kS iN oL lH jJ mY
  have Z57 := cz2 bZ
  have MP := trivial
  rotate_left
  refine iq H ?_ ?_ <;> clear H <;> intro c71 rl rm H
  obtain ⟨aFJ, H⟩ := cN H
  obtain ⟨aFK, H⟩ := cN H
  obtain ⟨Bv, Jv⟩ := yv (([(⟨#[]⟩ : ByteArray), (⟨#[122, 122]⟩ : ByteArray), (⟨#[107, 101, 103]⟩ : ByteArray), (⟨#[119]⟩ : ByteArray)] : List ByteArray)); first | replace H := bW Jv H | rw [← Jv.1] at H
  obtain ⟨⟨QX, Ol⟩, A74, H⟩ := bd H
  dsimp only at H
  obtain ⟨nu, H⟩ := cL H
  obtain ⟨rU, P0⟩ := yv (((aC fO eV).f2) ++ [QX]); first | replace H := bW P0 H | rw [← P0.1] at H
  obtain ⟨Bw, X1⟩ := yv (fO.set (eV : Int).toNat (⟨(aC fO eV).f0, (aC fO eV).f1, rU⟩ : S56)); first | replace H := bW X1 H | rw [← X1.1] at H
  obtain ⟨rfl, rfl, rfl⟩ := sZ3 H
  repeat clear H
  have Z77 := nZ3 kS iN oL lH jJ mY
  have Z80 := cz2 bZ
  have MP := trivial
  rotate_left
  refine iq H ?_ ?_ <;> clear H <;> intro c98 Wg rq H
  obtain ⟨rr, H⟩ := cN H
  obtain ⟨a5P, H⟩ := cN H
  obtain ⟨Bx, Jx⟩ := yv (([(⟨#[]⟩ : ByteArray), (⟨#[122, 122]⟩ : ByteArray), (⟨#[107, 101, 103]⟩ : ByteArray), (⟨#[119]⟩ : ByteArray)] : List ByteArray)); first | replace H := bW Jx H | rw [← Jx.1] at H
  obtain ⟨⟨Tr, vq⟩, a3H, H⟩ := bd H
  dsimp only at H
  obtain ⟨Zj, H⟩ := cL H
  obtain ⟨DX, RP⟩ := yv (((aC fO eV).f1) ++ [Tr]); first | replace H := bW RP H | rw [← RP.1] at H
  obtain ⟨R7, RQ⟩ := yv (fO.set (eV : Int).toNat (⟨(aC fO eV).f0, DX, (aC fO eV).f2⟩ : S56)); first | replace H := bW RQ H | rw [← RQ.1] at H
  obtain ⟨rfl, rfl, rfl⟩ := sZ3 H
  repeat clear H
  have a5H := nZ3 kS iN oL lH jJ mY
  have aLI := cz2 bZ
  have MP := trivial
  rotate_left
  refine iq H ?_ ?_ <;> clear H <;> intro a6A aw ax H
  obtain ⟨a6B, H⟩ := cN H
  obtain ⟨a6C, H⟩ := cN H
  by_cases cL : fO.length < 2199023255552
  rw [if_pos cL] at H
  have LM := am cL
  clear cL
  obtain ⟨rfl, rfl, rfl⟩ := sZ3 H
  repeat clear H
  have Z77 := nZ3 kS iN oL lH jJ mY
  have Z80 := cz2 bZ
  have MP := trivial
  rotate_left
  rw [if_neg cL] at H
  exact absurd H (by simp)
  obtain ⟨⟨Om, NV⟩, a3T, H⟩ := bd H
  dsimp only at H
  have H' := am H
  repeat clear H
  have a5J := nZ3 kS iN oL lH jJ mY
  have a5K := cz2 bZ
  have MP := trivial
  have Uy := trivial
  rotate_left
  all_goals
   try go_wp2_with (first | ((with_reducible refine gC 100 ?_); revert MP; intro MP; refine cQ (some 33) Try.func100 (bE.calls kj3 g d4 LB (fO.length : Int) eV I0 w0 _ (oD) (xZ) A47.out) ?_; rintro aJU ⟨hi, hb, hk⟩; replace bT := iR oD qX hk; replace bC := iS oD DM hk; replace a3 := kb aQ hk fF; replace aK := kb cA hk hJ; replace bZ := kb sN hk jJ; replace HK := kT w g tZ hk; replace HB := am hb; replace gJ := am hi; clear hb hk hi) | ((with_reducible refine gC 100 ?_); revert MP; intro MP; refine cQ (some 35) Try.func100 (bE.calls kj3 g d4 I0 5 uR wQ w0 _ (oD) (xZ) A48.out) ?_; rintro T0 ⟨hi, hb, hk⟩; replace bT := iR oD qX hk; replace bC := iS oD DM hk; replace a3 := kb aQ hk fF; replace aK := kb cA hk hJ; replace bZ := kb sN hk jJ; replace HK := kT w g tZ hk; replace HB := am hb; replace gJ := am hi; clear hb hk hi) | ((with_reducible refine gC 100 ?_); revert Uy; intro Uy; refine cQ (some 37) Try.func100 (bE.calls kj3 g d4 wQ 2 Om NV w0 _ (oD) (xZ) a3T.out) ?_; rintro aJV ⟨hi, hb, hk⟩; replace bT := iR oD qX hk; replace bC := iS oD DM hk; replace a3 := kb aQ hk fF; replace aK := kb cA hk hJ; replace bZ := kb sN hk jJ; replace HK := kT w g tZ hk; replace HB := am hb; replace gJ := am hi; clear hb hk hi))
  ·replace bT := RD bT
   replace bC := SD bC
   replace a3 := BD a3
   replace aK := BD aK
   replace bZ := BD bZ
   replace gJ := am (aD.drew gJ.out)
   replace HK := am (jO HK.out)
   replace HB := am (aV HB.1)
   refine sT [8] 9 (uA2 bZ) (fun hHeld => ?_)
   refine dZ bJ.tab3 bJ.Kq (fun HT_ HW_ => ?_)
   generalize wc.drew = w32 at bT bC a3 aK bZ gJ HK HB hHeld ⊢
   refine pU2 0 2 ?_
   refine tK2 1 (some 21) ?_
   refine oN 3 (some 23) fun K hK => ?_
   refine lT 9 23 yP ?_
   intro rQ Pv Sk hb
   replace bC := am (Kd.D9 DM (Kd.bL Sk) hb)
   have fX := am (Kd.cO (Kd.eF Sk (Kd.R_lt qX)) (kz w g tZ))
   replace bT := am (Kd.dJ qX (Kd.bL Sk) hb)
   replace a3 := bB aQ hb
   replace aK := bB cA hb
   replace bZ := bB sN hb
   replace HK := kU w g tZ hb
   replace HB := bS xZ hb
   replace gJ := am (aD.below oD hb)
   clear hb Sk
   obtain ⟨YX, Aa, Ap⟩ := Kd.bN fX.1
   (first | subst Ap | (obtain ⟨f4_, f5_⟩ := sj Ap; subst f4_; subst f5_))
   refine nK hK (uA2 bZ).1 fun hHeld => ?_
   clear hK K
   refine oN 4 (some 24) fun K hK => ?_
   refine gQ Try.func101 (fU.calls kj3 g d4 LB _ _ sS oS QV w0 _ (oD) (xZ) (pC (Kd.aT fX.1).2.2) ((Kd.aT fX.1).2.1) (oO (aD.own_ne gJ.out fX.1 (by decide))) Ca.out) ?_
   rintro Ou ⟨hi, hb, hk⟩
   replace bT := iR oD qX hk
   replace bC := iS oD DM hk
   replace a3 := kb aQ hk fF
   replace aK := kb cA hk hJ
   replace bZ := kb sN hk jJ
   replace fX := iR oD sP hk
   replace HK := kT w g tZ hk
   replace HB := am hb
   replace gJ := am hi
   clear hb hk hi
   refine nK hK (uA2 bZ).1 fun hHeld => ?_
   clear hK K
   refine oN 5 (some 25) fun K hK => ?_
   refine yJ (w1 := ?_) (v := ?_) (by rfl) rfl ?_ ?_
   rotate_left 2
   ·go_simp
    constructor
    ·rfl
    ·rfl
   refine hK.out _ _ ⟨(bF (dE bZ.1 _) 0).trans rfl, (bF (dE bZ.1 _) 1).trans rfl⟩ (fun hHeld => ?_)
   clear hK K
   refine nM ?_
   refine oN 6 (some 26) fun K hK => ?_
   refine Kd.oI Kd.string w.heap.size (by rfl) (.tmp 21) (.tmp 25) 23 9 (.string ⟨#[]⟩) 16 rfl Try.underlying23 jT rfl (by decide) (by omega) (.slice o3 eK.length nW) eK oS [.string oS] (fun k_ => some k_ ≠ (.slice YX sS.length Aa : Value).ownBlock) (fun _ => False) rfl rfl ?aP (fun _ hk => hk.elim) ?aF ?aO (Below.refl _ _) ?aS ?aL ?_
   (case aP => exact rfl)
   (case aF => exact (fun k_ hk => Kd.fresh' (Kd.R_lt sP) k_ hk))
   (case aO => exact (by refine rR ?_; exact Kd.aM bT.1 (fun _ hk => hk.2)))
   (case aS => exact (kz w g tZ))
   (case aL => have := Jd.out; omega)
   intro wj Ov ho hb hg hat
   rw [← FZ.out] at ho
   replace bC := am (Kd.Ra (ok := (fun k_ => some k_ ≠ (.slice YX sS.length Aa : Value).ownBlock)) (by refine rS ?_; exact Kd.CQ bC.1 (fun _ hk => ⟨hk.2, hk.1⟩)) hg hat)
   replace a3 := gkR aQ hg bT a3
   replace aK := gkR cA hg bT aK
   replace bZ := gkR sN hg bT bZ
   replace fX := am (Kd.gW (ok := (fun _ => True)) sP hg hat)
   replace HB := am (oF xZ HL.out hb)
   replace gJ := am (aD.grown oD hg (aD.own_ne gJ.out bT.1 (by decide)))
   replace HK := am (aW.trans tZ (aW.qW hg g) (Kd.BS bT.1))
   have yM := am ho
   clear bT
   clear ho hb hg hat
   obtain ⟨xQ, xU, Ar⟩ := Kd.bN yM.1
   (first | subst Ar | (obtain ⟨f4_, f5_⟩ := sj Ar; subst f4_; subst f5_))
   refine nK hK (uA2 bZ).1 fun hHeld => ?_
   clear hK K
   refine pU1 7 ?_
   refine lN 8 none fun K hK => ?_
   have aNL : Ov.cell? ⟨gX, 0, none⟩ = some (.slice o3 eK.length nW) := (bF bZ.1 0).trans rfl
   have aG8 := fV bZ.1 0
   have a2E := iN.1
   have a2F := lH.1
   have a0W := kS.1
   have a0X := oL.1
   refine wP (w1 := ?_) (by rfl) rfl ?_ ?_
   rotate_left
   ·go_simp
    rfl
   refine hK.out _ _ ?_
   clear hK K
   refine dN ?_
   have Z40 := nZ3 kS iN oL lH jJ mY
   have yk := cz2 bZ
   have Z44 := nZ2 dQ dP hJ lZ
   have Z46 := cz2 aK
   try go_wp2
   refine cR aX 31 #[.slice xQ YJ.length xU, .slice QG fO.length lA] (by refine rB ?_; refine eH (cs := #[.slice xQ YJ.length xU, .slice none 0 0]) ?_ 1 _ rfl; refine rB ?_; refine eH (cs := #[.slice none 0 0, .slice none 0 0]) ?_ 0 _ rfl; refine rB ?_; refine dY ?_ lH.1 _; refine rB ?_; exact aK.1) Try.underlying31 ?_
   refine toN_ ?_
   exact ⟨_, _, eR, by refine rR ?_; exact Kd.aM (fR (fR (Kd.qO (p := ⟨gX, 0, none⟩) (Kd.fK (tR yM bZ) aK.1 (by decide)) (fun _ hk => hk.1.2) (.slice xQ YJ.length xU)))) (fun _ hk => trivial), by refine rS ?_; exact Kd.CQ (fS (fS (Kd.Vm (p := ⟨gX, 0, none⟩) (Kd.O8 (tS bC bZ) aK.1 (by decide)) (fun _ hk => hk.1.2) (.slice xQ YJ.length xU)))) (fun _ hk => hk.1.1.2), oD, xZ, tZ⟩
  ·replace bT := RD bT
   replace bC := SD bC
   replace a3 := BD a3
   replace aK := BD aK
   replace bZ := BD bZ
   replace gJ := am (aD.drew gJ.out)
   replace HK := am (jO HK.out)
   replace HB := am (aV HB.1)
   refine sT [8] 9 (uA2 bZ) (fun hHeld => ?_)
   refine dZ bJ.SY bJ.LV (fun HT_ HW_ => ?_)
   generalize T0.drew = w60 at bT bC a3 aK bZ gJ HK HB hHeld ⊢
   refine pU3 0 2 3 ?_
   refine tK2 1 (some 58) ?_
   refine oN 4 (some 61) fun K hK => ?_
   refine lT 9 61 I7 ?_
   intro y6 w61 Sl hb
   replace bC := am (Kd.D9 DM (Kd.bL Sl) hb)
   have mH := am (Kd.cO (Kd.eF Sl (Kd.R_lt qX)) (kz w g tZ))
   replace bT := am (Kd.dJ qX (Kd.bL Sl) hb)
   replace a3 := bB aQ hb
   replace aK := bB cA hb
   replace bZ := bB sN hb
   replace HK := kU w g tZ hb
   replace HB := bS xZ hb
   replace gJ := am (aD.below oD hb)
   clear hb Sl
   obtain ⟨Pz, Ru, sx⟩ := Kd.bN mH.1
   (first | subst sx | (obtain ⟨f4_, f5_⟩ := sj sx; subst f4_; subst f5_))
   refine nK hK (uA2 bZ).1 fun hHeld => ?_
   clear hK K
   refine oN 5 (some 62) fun K hK => ?_
   refine gQ Try.func101 (fU.calls kj3 g d4 wQ _ _ FE o9 YD w0 _ (oD) (xZ) (pC (Kd.aT mH.1).2.2) ((Kd.aT mH.1).2.1) (oO (aD.own_ne gJ.out mH.1 (by decide))) A50.out) ?_
   rintro Ow ⟨hi, hb, hk⟩
   replace bT := iR oD qX hk
   replace bC := iS oD DM hk
   replace a3 := kb aQ hk fF
   replace aK := kb cA hk hJ
   replace bZ := kb sN hk jJ
   replace mH := iR oD NJ hk
   replace HK := kT w g tZ hk
   replace HB := am hb
   replace gJ := am hi
   clear hb hk hi
   have p53 : 0 ≤ (eV : Int) := oT
   have Tn : (eV : Int) < ((fO.length : Int) : Int) := oT
   obtain ⟨AR, aN5, sv, td, gl53, cl53, HG53⟩ := Kd.ZK bC.1 (by omega)
   (first | cases sv | (injection sv with ea_ en_ ec_; (first | subst ea_ | (injection ea_ with ea_; subst ea_)); subst ec_; clear en_))
   have GB53 := am td
   have GG53 := am HG53
   clear td gl53 HG53
   obtain ⟨_, ce53, hcl53, hM53, hcc53, hfr53, _, _⟩ := Kd.U3 bC.1 z56 (eV : Int) p53 Tn
   obtain ⟨ve53_1, ve53_2, rfl, a8G, a8H⟩ := zO hM53
   have a99 : World.cell? _ ⟨AR, (eV : Int).toNat * 3, none⟩ = some (.string ((aC fO eV).f0)) := hcc53 0 _ rfl
   have a9A : World.cell? _ ⟨AR, (eV : Int).toNat * 3 + 1, none⟩ = some (ve53_1) := hcc53 1 _ rfl
   have a9B : World.cell? _ ⟨AR, (eV : Int).toNat * 3 + 2, none⟩ = some (ve53_2) := hcc53 2 _ rfl
   have hf53_0 : World.frozen? _ ⟨AR, (eV : Int).toNat * 3, none⟩ = false := hfr53 0
   have hf53_1 : World.frozen? _ ⟨AR, (eV : Int).toNat * 3 + 1, none⟩ = false := hfr53 1
   have hf53_2 : World.frozen? _ ⟨AR, (eV : Int).toNat * 3 + 2, none⟩ = false := hfr53 2
   clear hcl53 hcc53 hfr53 hM53
   replace p53 := eq_true p53
   replace Tn := eq_true Tn
   have HN0_go53 := am (show g ≠ AR from by have h_ := aD.zG gJ.out bC.1 (by decide); intro e_; exact h_ (by rw [e_]; rfl))
   have HX65 := am (show Kd.S k56 56 Ow w.heap.size (fun k_ => ((fun k_ => some k_ ≠ (.slice o3 eK.length nW : Value).ownBlock ∧ some k_ ≠ (.slice Pz FE.length Ru : Value).ownBlock)) k_ ∧ ¬ (fun _ => False) k_) (.slice (some ⟨AR, 0, none⟩) fO.length lA) fO from (by refine rS ?_; exact Kd.CQ bC.1 (fun k_ hk => ⟨⟨hk.1, hk.2⟩, fun e_ => e_⟩)))
   obtain ⟨oki65, ce65, hcl65, hM65, hcc65, hfr65, hoki65, hH65⟩ := Kd.U3 HX65.out z56 (eV : Int) (oT) (by have h_ : (eV : Int) < ((fO.length : Int) : Int) := oT; first | exact h_ | (have e_ := (Kd.uM bC.1).1; omega) | simpa using h_)
   obtain ⟨ve65_1, ve65_2, rfl, ei, ej⟩ := zO hM65
   have HP65 := (Kd.Vo hH65 (oT) (by have h_ : (eV : Int) < ((fO.length : Int) : Int) := oT; first | exact h_ | (have e_ := (Kd.uM bC.1).1; omega) | simpa using h_) (seg := [.string o9]) (j := 0) (show 1 ≤ 3 from by decide) (x' := (⟨o9, (aC fO eV).f1, (aC fO eV).f2⟩ : S56)) (KM _ _ _ (⟨o9, (aC fO eV).f1, (aC fO eV).f2⟩ : S56) ei ej (PX hM65)) (fun _ hk => Or.inl hk) (fun _ hk => hk.elim)).1
   rw [← G0.out] at HP65
   have HQ65 := am HP65
   clear hcl65 hcc65 hfr65 hM65 HP65
   refine nK hK (uA2 bZ).1 fun hHeld => ?_
   clear hK K
   refine pU2 6 7 ?_
   refine lN 8 none fun K hK => ?_
   refine wP (w1 := ?_) (by rfl) rfl ?_ ?_
   rotate_left
   ·go_simp
    rfl
   refine hK.out _ _ ?_
   clear hK K
   refine dN ?_
   have n0_ : aA (Kd.R Kd.string 9 (Ow.setCell ⟨AR, (eV : Int).toNat * 3, none⟩ (.string o9)) w.heap.size (fun k_ => some k_ ≠ (.slice Pz FE.length Ru : Value).ownBlock) (.slice o3 eK.length nW) eK) := ⟨by refine rR ?_; exact Kd.aM (Kd.qO (p := ⟨AR, (eV : Int).toNat * 3, none⟩) (tR bT GG53) (fun _ hk => hk.2) (.string o9)) (fun _ hk => hk.1.2)⟩
   have n1_ : aA (Kd.S k56 56 (Ow.setCell ⟨AR, (eV : Int).toNat * 3, none⟩ (.string o9)) w.heap.size (fun k_ => some k_ ≠ (.slice o3 eK.length nW : Value).ownBlock ∧ some k_ ≠ (.slice Pz FE.length Ru : Value).ownBlock) (.slice (some ⟨AR, 0, none⟩) fO.length lA) DW) := ⟨rS HQ65.out⟩
   have n2_ : aA (Kd.R Kd.string 9 (Ow.setCell ⟨AR, (eV : Int).toNat * 3, none⟩ (.string o9)) w.heap.size (fun k_ => some k_ ≠ (.slice o3 eK.length nW : Value).ownBlock) (.slice Pz FE.length Ru) FE) := ⟨by refine rR ?_; exact Kd.aM (Kd.qO (p := ⟨AR, (eV : Int).toNat * 3, none⟩) (tR mH GG53) (fun _ hk => hk.2) (.string o9)) (fun _ hk => hk.1.2)⟩
   have n3_ : aA ((Ow.setCell ⟨AR, (eV : Int).toNat * 3, none⟩ (.string o9)).heap[aJ]? = some (.cells #[.slice y8 fY.length AC, .slice xO mF.length xC] 31 (0, 0))) := ⟨by refine rB ?_; refine dY ?_ (by have h_ := Kd.S_ne bC.1 a3.1 (by decide); intro e_; exact h_ (by rw [e_]; rfl)) _; refine rB ?_; exact a3.1⟩
   have n4_ : aA ((Ow.setCell ⟨AR, (eV : Int).toNat * 3, none⟩ (.string o9)).heap[aX]? = some (.cells #[.slice none 0 0, .slice none 0 0] 31 (0, 0))) := ⟨by refine rB ?_; refine dY ?_ (by have h_ := Kd.S_ne bC.1 aK.1 (by decide); intro e_; exact h_ (by rw [e_]; rfl)) _; refine rB ?_; exact aK.1⟩
   have n5_ : aA ((Ow.setCell ⟨AR, (eV : Int).toNat * 3, none⟩ (.string o9)).heap[gX]? = some (.cells #[.slice o3 eK.length nW, .slice (some ⟨AR, 0, none⟩) fO.length lA] 31 (0, 0))) := ⟨by refine rB ?_; refine dY ?_ (by have h_ := Kd.S_ne bC.1 bZ.1 (by decide); intro e_; exact h_ (by rw [e_]; rfl)) _; refine rB ?_; exact bZ.1⟩
   have n6_ : aA (aD w0 (Ow.setCell ⟨AR, (eV : Int).toNat * 3, none⟩ (.string o9)) g d4 YD) := ⟨by repeat (first | (with_reducible first | exact gJ.out | apply aD.alloc | apply aD.drewN | apply aD.drew | apply aD.FN | refine aD.far ?_ HN0_go53.out _ | refine aD.far ?_ l7.1 _ | refine aD.far ?_ lZ.1 _ | refine aD.far ?_ mY.1 _) | exact gJ.out)⟩
   have n7_ : aA (aW w (Ow.setCell ⟨AR, (eV : Int).toNat * 3, none⟩ (.string o9)) g none) := ⟨by repeat (first | (with_reducible first | exact HK.out | apply aW.set_ | apply o8 | apply jO | apply o7 | refine j6 ?_ GB53.out _ | refine j6 ?_ gH.out _ | refine j6 ?_ mP.out _ | refine j6 ?_ MO.out _) | exact HK.out)⟩
   have n8_ : aA (Below w0.heap.size w0 (Ow.setCell ⟨AR, (eV : Int).toNat * 3, none⟩ (.string o9))) := ⟨by repeat (first | (with_reducible first | exact HB.1 | apply cZ | apply bR | apply aV | refine bI ?_ (Nat.le_trans HL.out GB53.out) | refine bI ?_ (aD.ge gJ.out) | refine bI ?_ iE.1 | refine bI ?_ nX.1 | refine bI ?_ MN.1) | exact HB.1)⟩
   (try clear bT)
   (try clear bC)
   (try clear mH)
   (try clear a3)
   (try clear aK)
   (try clear bZ)
   (try clear gJ)
   (try clear HK)
   (try clear HB)
   generalize (Ow.setCell ⟨AR, (eV : Int).toNat * 3, none⟩ (.string o9)) = w66 at n0_ n1_ n2_ n3_ n4_ n5_ n6_ n7_ n8_ ⊢
   have bT := n0_
   have bC := n1_
   have mH := n2_
   have a3 := n3_
   have aK := n4_
   have bZ := n5_
   have gJ := n6_
   have HK := n7_
   have HB := n8_
   clear n0_ n1_ n2_ n3_ n4_ n5_ n6_ n7_ n8_
   have Z67 := cz2 bZ
   have Z68 := nZ2 dQ dP hJ lZ
   have Z70 := cz2 aK
   try go_wp2
   refine cR aX 31 #[.slice o3 eK.length nW, .slice (some ⟨AR, 0, none⟩) fO.length lA] (qP aK) Try.underlying31 ?_
   refine toN_ ?_
   exact ⟨_, _, eR, mR bT aK, mS bC aK, oD, xZ, tZ⟩
  ·replace bT := RD bT
   replace bC := SD bC
   replace a3 := BD a3
   replace aK := BD aK
   replace bZ := BD bZ
   replace gJ := am (aD.drew gJ.out)
   replace HK := am (jO HK.out)
   replace HB := am (aV HB.1)
   have VW : 0 ≤ (eV : Int) := oT
   have WC : eV < (fO.length : Int) := oT
   obtain ⟨FJ, Ia, Kx, TD, U8, ck, H5, zE, zF, OC, OA, OD, OB⟩ := x9 (Kd.uM bC.1).2.2 eV VW WC
   cases ck
   obtain ⟨ce130, hce130, hMe130, hcc130⟩ := Kd.Vn bC.1 z56 eV VW (by first | exact WC | exact oT | (have e_ := (Kd.uM bC.1).1; omega))
   obtain ⟨ve130_1, ve130_2, rfl, UR, US⟩ := zO hMe130
   have KA := hcc130 1 _ rfl
   rw [mO _ _ 1 (by omega)] at KA
   replace KA := Option.some.inj (KA.symm.trans zE)
   rw [KA] at UR
   have EA := am (show Kd.R Kd.string 9 _ _ _ _ ((aC fO eV).f1) from UR)
   clear KA UR
   have HX130_1 := am zE
   have KB := hcc130 2 _ rfl
   rw [mO _ _ 2 (by omega)] at KB
   replace KB := Option.some.inj (KB.symm.trans zF)
   rw [KB] at US
   have pO := am (show Kd.R Kd.string 9 _ _ _ _ ((aC fO eV).f2) from US)
   clear KB US
   have HX130_2 := am zF
   clear hcc130 hce130
   have O4 := am OA
   have xu := am OC
   clear OA OC
   have O5 := am OB
   have xv := am OD
   clear OB OD
   replace VW := eq_true VW
   replace WC := eq_true WC
   refine sT (S := fun w' => w'.cell? ⟨gX, 0, none⟩ = some (.slice o3 eK.length nW) ∧ w'.cell? ⟨gX, 1, none⟩ = some (.slice (some FJ) fO.length lA) ∧ w'.cell? (FJ.add ((eV).toNat * 3)) = some (.string ((aC fO eV).f0)) ∧ w'.cell? ⟨(FJ.add ((eV).toNat * 3)).block, (FJ.add ((eV).toNat * 3)).off + 1, none⟩ = some (.slice Ia ((aC fO eV).f1).length Kx) ∧ w'.cell? ⟨(FJ.add ((eV).toNat * 3)).block, (FJ.add ((eV).toNat * 3)).off + 2, none⟩ = some (.slice TD ((aC fO eV).f2).length U8)) [16] 17 ⟨⟨(bF bZ.1 0).trans rfl, (bF bZ.1 1).trans rfl, H5, zE, zF⟩⟩ (fun hHeld => ?_)
   refine dZ bJ.YF bJ.P9 (fun HT_ HW_ => ?_)
   generalize T0.drew = wx at bT bC a3 aK bZ gJ HK HB EA pO O4 O5 HX130_1 HX130_2 H5 zE zF hHeld ⊢
   refine pU5 0 2 3 5 9 ?_
   refine tK5 1 (some 68) ?_
   refine tK5 4 (some 71) ?_
   refine pU2 6 7 ?_
   refine tK5 8 (some 75) ?_
   refine oN 10 (some 77) fun K hK => ?_
   refine lT 9 77 Jv ?_
   intro jg Tz Gr hb
   have HS2_ := (hb.cell (World.block_lt_of_cell? _ _ (hHeld.2.2.1))).trans (hHeld.2.2.1)
   have HS3_ := (hb.cell (World.block_lt_of_cell? _ _ (hHeld.2.2.2.1))).trans (hHeld.2.2.2.1)
   have HS4_ := (hb.cell (World.block_lt_of_cell? _ _ (hHeld.2.2.2.2))).trans (hHeld.2.2.2.2)
   replace bC := am (Kd.D9 DM (Kd.bL Gr) hb)
   have vY := am (Kd.cO (Kd.eF (Kd.eF (Kd.eF Gr (Kd.R_lt qX)) (Kd.R_lt (rR EA.out))) (Kd.R_lt (rR pO.out))) (kz w g tZ))
   replace bT := am (Kd.dJ qX (Kd.bL Gr) hb)
   replace EA := am (Kd.dJ (rR EA.out) (Kd.bL Gr) hb)
   replace pO := am (Kd.dJ (rR pO.out) (Kd.bL Gr) hb)
   replace a3 := bB aQ hb
   replace aK := bB cA hb
   replace bZ := bB sN hb
   replace O4 := am (Kd.bK (by repeat (first | (with_reducible exact O4.1) | (with_reducible refine Kd.gU ?_ _) | (with_reducible refine Kd.gV ?_ _) | (with_reducible refine Kd.iW ?_) | exact O4.1)) hb)
   replace HX130_1 := am (mJ hb HX130_1.out)
   replace O5 := am (Kd.bK (by repeat (first | (with_reducible exact O5.1) | (with_reducible refine Kd.gU ?_ _) | (with_reducible refine Kd.gV ?_ _) | (with_reducible refine Kd.iW ?_) | exact O5.1)) hb)
   replace HX130_2 := am (mJ hb HX130_2.out)
   replace HK := kU w g tZ hb
   replace HB := bS xZ hb
   replace gJ := am (aD.below oD hb)
   clear hb Gr
   obtain ⟨Ie, Lk, ta⟩ := Kd.bN vY.1
   (first | subst ta | (obtain ⟨f4_, f5_⟩ := sj ta; subst f4_; subst f5_))
   refine hK.out _ _ ⟨(bF bZ.1 0).trans rfl, (bF bZ.1 1).trans rfl, HS2_, HS3_, HS4_⟩ (fun hHeld => ?_)
   clear hK K
   refine nM ?_
   refine oN 11 (some 78) fun K hK => ?_
   refine wF Try.func101 (by kernel_rfl) rfl #[.pointer (some ⟨g, 0, none⟩), .slice Ie Bv.length Lk] (by rfl) rfl rfl FO ?_
   with_reducible refine (fU.calls kj3 g d4 wQ _ _ Bv QX Ol w0 _ ?side1 ?side2 ?side3 ?side4 ?side5 A74.out).mono ?_
   (case side1 => exact oD)
   (case side2 => exact xZ)
   (case side3 => exact pC (Kd.aT vY.1).2.2)
   (case side4 => exact (Kd.aT vY.1).2.1)
   (case side5 => exact oO (aD.own_ne gJ.out vY.1 (by decide)))
   rintro e w87 ⟨rfl, hi, hb, hk⟩
   have HS2_ := kC hk (hHeld.2.2.1) Ha
   have HS3_ := kC hk (hHeld.2.2.2.1) Ha
   have HS4_ := kC hk (hHeld.2.2.2.2) Ha
   refine ⟨_, rfl, ?_⟩
   replace bT := iR oD qX hk
   replace a3 := kb aQ hk fF
   replace aK := kb cA hk hJ
   replace bZ := kb sN hk jJ
   replace EA := am (Kd.aM (Kd.lQ (aD.apart (show aD w0 _ g d4 wQ from oD) (rR EA.out) (by decide)) hk (fun _ h => h.2)) (fun _ h => h.1))
   replace HX130_1 := am (kC hk HX130_1.out Th)
   replace pO := am (Kd.aM (Kd.lQ (aD.apart (show aD w0 _ g d4 wQ from oD) (rR pO.out) (by decide)) hk (fun _ h => h.2)) (fun _ h => h.1))
   replace HX130_2 := am (kC hk HX130_2.out Th)
   replace bC := iS oD DM hk
   replace vY := iR oD (rR vY.1) hk
   replace HK := kT w g tZ hk
   replace HB := am hb
   replace gJ := am hi
   clear hb hk hi
   obtain ⟨DJ, sd, Sb, te, gl88, cl88, HG88⟩ := Kd.ZK bC.1 (by have h_ : (eV : Int) < ((fO.length : Int) : Int) := oT; have h2_ : 0 ≤ (eV : Int) := (oT); omega)
   (first | cases Sb | (injection Sb with ea_ en_ ec_; (first | subst ea_ | (injection ea_ with ea_; subst ea_)); subst ec_; clear en_))
   have GB88 := am te
   have GG88 := am HG88
   clear te gl88 HG88
   (first | simp only [add_plain] at H5 | skip)
   (first | simp only [add_plain] at zE | skip)
   (first | simp only [add_plain] at zF | skip)
   obtain ⟨oki88, ce88, hcl88, hM88, hcc88, _, _, hH88⟩ := Kd.U3 bC.1 z56 (eV : Int) (oT) (by have h_ : (eV : Int) < ((fO.length : Int) : Int) := oT; first | exact h_ | (have e_ := (Kd.uM bC.1).1; omega) | simpa using h_)
   obtain ⟨ve88_1, ve88_2, rfl, Mh, Mi⟩ := zO hM88
   have uy := PX hM88
   clear hM88
   have Sm := hcc88 2 _ rfl
   have hX88 := HX130_2.out
   (try simp only [add_plain] at hX88)
   (try simp only [Nat.add_zero] at Sm)
   replace Sm := Option.some.inj (Sm.symm.trans hX88)
   subst Sm
   clear hX88 hcc88 hcl88
   have UU88 := am (show Kd.R Kd.string 9 _ w.heap.size oki88 (.slice TD ((aC fO eV).f2).length U8) ((aC fO eV).f2) from Mi)
   have HH88 := am hH88
   have HN88 := am (Kd.uM bC.1).1
   have HE88_1 := am Mh
   have HSp88 := am uy
   clear uy
   clear hH88 Mh Mi
   refine hK.out _ _ ⟨(bF bZ.1 0).trans rfl, (bF bZ.1 1).trans rfl, HS2_, HS3_, HS4_⟩ (fun hHeld => ?_)
   clear hK K
   refine nM ?_
   refine oN 12 (some 79) fun K hK => ?_
   refine yJ (w1 := ?_) (v := ?_) (by rfl) rfl ?_ ?_
   rotate_left 2
   ·go_simp
    constructor
    ·rfl
    ·rfl
   refine hK.out _ _ ⟨(bF (dE bZ.1 _) 0).trans rfl, (bF (dE bZ.1 _) 1).trans rfl, (World.cell?_alloc_lt _ _ _ (World.block_lt_of_cell? _ _ (hHeld.2.2.1))).trans (hHeld.2.2.1), (World.cell?_alloc_lt _ _ _ (World.block_lt_of_cell? _ _ (hHeld.2.2.2.1))).trans (hHeld.2.2.2.1), (World.cell?_alloc_lt _ _ _ (World.block_lt_of_cell? _ _ (hHeld.2.2.2.2))).trans (hHeld.2.2.2.2)⟩ (fun hHeld => ?_)
   clear hK K
   refine nM ?_
   refine oN 13 (some 80) fun K hK => ?_
   refine Kd.oI Kd.string w.heap.size (by rfl) (.tmp 75) (.tmp 79) 23 9 (.string ⟨#[]⟩) 16 rfl Try.underlying23 jT rfl (by decide) (by omega) (.slice TD ((aC fO eV).f2).length U8) ((aC fO eV).f2) QX [.string QX] (fun k_ => oki88 k_ ∨ ((fun k_ => some k_ ≠ (.slice o3 eK.length nW : Value).ownBlock ∧ some k_ ≠ (.slice Ie Bv.length Lk : Value).ownBlock)) k_ ∧ w87.heap.size ≤ k_) (fun _ => False) rfl rfl ?aP (fun _ hk => hk.elim) ?aF ?aO (Below.refl _ _) ?aS ?aL ?_
   (case aP => exact rfl)
   (case aF => exact (fun k_ hk => .inr ⟨⟨Kd.fresh' (Kd.R_lt qX) k_ hk, Kd.fresh' (Kd.R_lt (rR vY.1)) k_ hk⟩, hk⟩))
   (case aO => exact (by refine rR ?_; exact Kd.aM UU88.out (fun _ hk => .inl hk)))
   (case aS => exact (kz w g tZ))
   (case aL => have := nu.out; omega)
   intro uC Ox ho hb hg hat
   (first | have HS2_ := cell_grown hg (hHeld.2.2.1) Hb | have HS2_ := cell_grown hg (tY (hHeld.2.2.1) He) Hb)
   (first | have HS3_ := cell_grown hg (hHeld.2.2.2.1) Hb | have HS3_ := cell_grown hg (tY (hHeld.2.2.2.1) He) Hb)
   (first | have HS4_ := cell_grown hg (hHeld.2.2.2.2) Hb | have HS4_ := cell_grown hg (tY (hHeld.2.2.2.2) He) Hb)
   rw [← P0.out] at ho
   have n0_ := am (Kd.D8 qX rfl hg (fun k_ e_ => (pO.out.1 k_ e_).1.1))
   have n1_ := gkR aQ hg pO a3
   have n2_ := gkR cA hg pO aK
   have n3_ := gkR sN hg pO bZ
   have n4_ := am (aD.grown oD hg (aD.own_ne gJ.out pO.out (by decide)))
   have n5_ := am (Kd.D8 (rR vY.1) rfl hg (fun k_ e_ => (pO.out.1 k_ e_).2))
   have n6_ := am (oF xZ HL.out hb)
   have n7_ := am (aW.trans tZ (aW.qW hg g) (Kd.BS pO.out))
   have n8_ := am (Kd.Cu (Kd.Cw (by repeat (first | exact HH88.out | refine Kd.Cs ?_ _ | refine Kd.Ct ?_ _ | refine Kd.Iw ?_))) hg (fun k_ e_ => .inl (UU88.out.1 k_ e_)))
   have n9_ := am (Kd.D8 (rR HE88_1.out) rfl hg (fun k_ e_ => fun e2_ => HSp88.out k_ e2_.symm e_))
   have n10_ := am (il HSp88.out hat (rR HE88_1.out))
   have n11_ := am ho
   clear bT
   clear a3
   clear aK
   clear bZ
   clear gJ
   clear vY
   clear HB
   clear HK
   clear HH88
   clear HE88_1
   clear HSp88
   clear bC
   clear UU88
   clear EA
   clear pO
   have bT := n0_
   have a3 := n1_
   have aK := n2_
   have bZ := n3_
   have gJ := n4_
   have vY := n5_
   have HB := n6_
   have HK := n7_
   have HH88 := n8_
   have HE88_1 := n9_
   have HSp88 := n10_
   have pR := n11_
   clear n0_ n1_ n2_ n3_ n4_ n5_ n6_ n7_ n8_ n9_ n10_ n11_
   clear ho hb hg hat
   have p76 : 0 ≤ (eV : Int) := oT
   have lh : (eV : Int) < ((fO.length : Int) : Int) := oT
   replace p76 := eq_true p76
   replace lh := eq_true lh
   obtain ⟨LG, LZ, tc⟩ := Kd.bN pR.1
   (first | subst tc | (obtain ⟨f4_, f5_⟩ := sj tc; subst f4_; subst f5_))
   obtain ⟨_, _, hraw90, _, _, hcc90, _⟩ := Kd.Cv HH88.out (oT) (by have h_ : (eV : Int) < ((fO.length : Int) : Int) := oT; first | exact h_ | (have e_ := (HN88.out); omega) | simpa using h_)
   obtain ⟨_, hfr90⟩ := Kd.H_at HH88.out (oT) (by have h_ : (eV : Int) < ((fO.length : Int) : Int) := oT; first | exact h_ | (have e_ := (HN88.out); omega) | simpa using h_)
   have fk := hcc90 2 _ rfl
   have hf90_0 := hfr90 2
   (try rw [show (k56).sz = 3 from rfl] at fk)
   (try rw [show (k56).sz = 3 from rfl] at hf90_0)
   have HP90 := Kd.Kh HH88.out (oT) (by have h_ : (eV : Int) < ((fO.length : Int) : Int) := oT; first | exact h_ | (have e_ := (HN88.out); omega) | simpa using h_) (seg := [.slice LG rU.length LZ]) (j := 2) (show 3 ≤ 3 from by decide) (x' := (⟨(aC fO eV).f0, (aC fO eV).f1, rU⟩ : S56)) (KM _ _ _ (⟨(aC fO eV).f0, (aC fO eV).f1, rU⟩ : S56) (Kd.aM HE88_1.out (fun _ h_ => .inl h_)) pR.1 HSp88.out) (fun _ hk => hk)
   clear hcc90 hfr90
   have HN0_go88 := am (show g ≠ DJ from by have h_ := aD.own_ne gJ.out hraw90 (by decide); intro e_; exact h_ (by rw [e_]; rfl))
   have HNB101_go88 := am (show aJ ≠ DJ from by have h_ := Kd.R_ne hraw90 a3.1 (by decide); intro e_; exact h_ (by rw [e_]; rfl))
   have HNB102_go88 := am (show aX ≠ DJ from by have h_ := Kd.R_ne hraw90 aK.1 (by decide); intro e_; exact h_ (by rw [e_]; rfl))
   have HNB109_go88 := am (show gX ≠ DJ from by have h_ := Kd.R_ne hraw90 bZ.1 (by decide); intro e_; exact h_ (by rw [e_]; rfl))
   have HS90 := HP90.1
   rw [← X1.out] at HS90
   have HQ90 := am HS90
   obtain ⟨_, hgg90⟩ := Kd.tV hraw90 DJ rfl
   have GG90_ := am hgg90
   clear HP90 HS90 hgg90
   refine hK.out _ _ ⟨(bF bZ.1 0).trans rfl, (bF bZ.1 1).trans rfl, HS2_, HS3_, HS4_⟩ (fun hHeld => ?_)
   clear hK K
   refine nM ?_
   refine pU2 14 15 ?_
   refine lN 16 none fun K hK => ?_
   refine wP (w1 := ?_) (by rfl) rfl ?_ ?_
   rotate_left
   ·go_simp
    rfl
   refine hK.out _ _ ?_
   clear hK K
   refine dN ?_
   have n0_ : aA (Kd.R Kd.string 9 (Ox.setCell ⟨DJ, (eV : Int).toNat * 3 + 2, none⟩ (.slice LG rU.length LZ)) w.heap.size (fun k_ => some k_ ≠ (.slice Ie Bv.length Lk : Value).ownBlock) (.slice o3 eK.length nW) eK) := ⟨by refine rR ?_; exact Kd.aM (Kd.qO (p := ⟨DJ, (eV : Int).toNat * 3 + 2, none⟩) (tR bT GG90_) (fun _ hk => hk.2) (.slice LG rU.length LZ)) (fun _ hk => hk.1.2)⟩
   have n1_ : aA (Kd.R Kd.string 9 (Ox.setCell ⟨DJ, (eV : Int).toNat * 3 + 2, none⟩ (.slice LG rU.length LZ)) w.heap.size (fun k_ => some k_ ≠ (.slice o3 eK.length nW : Value).ownBlock) (.slice Ie Bv.length Lk) Bv) := ⟨by refine rR ?_; exact Kd.aM (Kd.qO (p := ⟨DJ, (eV : Int).toNat * 3 + 2, none⟩) (tR vY GG90_) (fun _ hk => hk.2) (.slice LG rU.length LZ)) (fun _ hk => hk.1.1.1.2)⟩
   have n2_ : aA (Kd.S k56 56 (Ox.setCell ⟨DJ, (eV : Int).toNat * 3 + 2, none⟩ (.slice LG rU.length LZ)) w.heap.size (fun k_ => some k_ ≠ (.slice o3 eK.length nW : Value).ownBlock ∧ some k_ ≠ (.slice Ie Bv.length Lk : Value).ownBlock) (.slice (some ⟨DJ, 0, none⟩) fO.length lA) Bw) := ⟨rS HQ90.out⟩
   have n3_ : aA ((Ox.setCell ⟨DJ, (eV : Int).toNat * 3 + 2, none⟩ (.slice LG rU.length LZ)).heap[aJ]? = some (.cells #[.slice y8 fY.length AC, .slice xO mF.length xC] 31 (0, 0))) := ⟨by refine rB ?_; refine dY ?_ HNB101_go88.out _; refine rB ?_; exact a3.1⟩
   have n4_ : aA ((Ox.setCell ⟨DJ, (eV : Int).toNat * 3 + 2, none⟩ (.slice LG rU.length LZ)).heap[aX]? = some (.cells #[.slice none 0 0, .slice none 0 0] 31 (0, 0))) := ⟨by refine rB ?_; refine dY ?_ HNB102_go88.out _; refine rB ?_; exact aK.1⟩
   have n5_ : aA ((Ox.setCell ⟨DJ, (eV : Int).toNat * 3 + 2, none⟩ (.slice LG rU.length LZ)).heap[gX]? = some (.cells #[.slice o3 eK.length nW, .slice (some ⟨DJ, 0, none⟩) fO.length lA] 31 (0, 0))) := ⟨by refine rB ?_; refine dY ?_ HNB109_go88.out _; refine rB ?_; exact bZ.1⟩
   have n6_ : aA (aD w0 (Ox.setCell ⟨DJ, (eV : Int).toNat * 3 + 2, none⟩ (.slice LG rU.length LZ)) g d4 Ol) := ⟨by repeat (first | (with_reducible first | exact gJ.out | apply aD.alloc | apply aD.drewN | apply aD.drew | apply aD.FN | refine aD.far ?_ HN0_go88.out _ | refine aD.far ?_ l7.1 _ | refine aD.far ?_ lZ.1 _ | refine aD.far ?_ mY.1 _) | exact gJ.out)⟩
   have n7_ : aA (aW w (Ox.setCell ⟨DJ, (eV : Int).toNat * 3 + 2, none⟩ (.slice LG rU.length LZ)) g none) := ⟨by repeat (first | (with_reducible first | exact HK.out | apply aW.set_ | apply o8 | apply jO | apply o7 | refine j6 ?_ GB88.out _ | refine j6 ?_ gH.out _ | refine j6 ?_ mP.out _ | refine j6 ?_ MO.out _) | exact HK.out)⟩
   have n8_ : aA (Below w0.heap.size w0 (Ox.setCell ⟨DJ, (eV : Int).toNat * 3 + 2, none⟩ (.slice LG rU.length LZ))) := ⟨by repeat (first | (with_reducible first | exact HB.1 | apply cZ | apply bR | apply aV | refine bI ?_ (Nat.le_trans HL.out GB88.out) | refine bI ?_ (aD.ge gJ.out) | refine bI ?_ iE.1 | refine bI ?_ nX.1 | refine bI ?_ MN.1) | exact HB.1)⟩
   (try clear bT)
   (try clear vY)
   (try clear bC)
   (try clear a3)
   (try clear aK)
   (try clear bZ)
   (try clear gJ)
   (try clear HK)
   (try clear HB)
   generalize (Ox.setCell ⟨DJ, (eV : Int).toNat * 3 + 2, none⟩ (.slice LG rU.length LZ)) = wy at n0_ n1_ n2_ n3_ n4_ n5_ n6_ n7_ n8_ ⊢
   have bT := n0_
   have vY := n1_
   have bC := n2_
   have a3 := n3_
   have aK := n4_
   have bZ := n5_
   have gJ := n6_
   have HK := n7_
   have HB := n8_
   clear n0_ n1_ n2_ n3_ n4_ n5_ n6_ n7_ n8_
   have Z94 := cz2 bZ
   have Z95 := nZ2 dQ dP hJ lZ
   have Z97 := cz2 aK
   try go_wp2
   refine cR aX 31 #[.slice o3 eK.length nW, .slice (some ⟨DJ, 0, none⟩) fO.length lA] (qP aK) Try.underlying31 ?_
   refine toN_ ?_
   exact ⟨_, _, eR, mR bT aK, mS bC aK, oD, xZ, tZ⟩
  ·replace bT := RD bT
   replace bC := SD bC
   replace a3 := BD a3
   replace aK := BD aK
   replace bZ := BD bZ
   replace gJ := am (aD.drew gJ.out)
   replace HK := am (jO HK.out)
   replace HB := am (aV HB.1)
   have Tg : 0 ≤ (eV : Int) := oT
   have Tm : eV < (fO.length : Int) := oT
   obtain ⟨RV, YU, ZX, Xv, ay, a7O, VP, KJ, KK, Eu, El, Ew, Em⟩ := x9 (Kd.uM bC.1).2.2 eV Tg Tm
   cases a7O
   obtain ⟨ce140, hce140, hMe140, hcc140⟩ := Kd.Vn bC.1 z56 eV Tg (by first | exact Tm | exact oT | (have e_ := (Kd.uM bC.1).1; omega))
   obtain ⟨ve140_1, ve140_2, rfl, UV, UW⟩ := zO hMe140
   have KC := hcc140 1 _ rfl
   rw [mO _ _ 1 (by omega)] at KC
   replace KC := Option.some.inj (KC.symm.trans KJ)
   rw [KC] at UV
   have pP := am (show Kd.R Kd.string 9 _ _ _ _ ((aC fO eV).f1) from UV)
   clear KC UV
   have HX140_1 := am KJ
   have KD := hcc140 2 _ rfl
   rw [mO _ _ 2 (by omega)] at KD
   replace KD := Option.some.inj (KD.symm.trans KK)
   rw [KD] at UW
   have EB := am (show Kd.R Kd.string 9 _ _ _ _ ((aC fO eV).f2) from UW)
   clear KD UW
   have HX140_2 := am KK
   clear hcc140 hce140
   have O6 := am El
   have xy := am Eu
   clear El Eu
   have O7 := am Em
   have xz := am Ew
   clear Em Ew
   replace Tg := eq_true Tg
   replace Tm := eq_true Tm
   refine sT (S := fun w' => w'.cell? ⟨gX, 0, none⟩ = some (.slice o3 eK.length nW) ∧ w'.cell? ⟨gX, 1, none⟩ = some (.slice (some RV) fO.length lA) ∧ w'.cell? (RV.add ((eV).toNat * 3)) = some (.string ((aC fO eV).f0)) ∧ w'.cell? ⟨(RV.add ((eV).toNat * 3)).block, (RV.add ((eV).toNat * 3)).off + 1, none⟩ = some (.slice YU ((aC fO eV).f1).length ZX) ∧ w'.cell? ⟨(RV.add ((eV).toNat * 3)).block, (RV.add ((eV).toNat * 3)).off + 2, none⟩ = some (.slice Xv ((aC fO eV).f2).length ay)) [16] 17 ⟨⟨(bF bZ.1 0).trans rfl, (bF bZ.1 1).trans rfl, VP, KJ, KK⟩⟩ (fun hHeld => ?_)
   refine dZ bJ.vz bJ.aj (fun HT_ HW_ => ?_)
   generalize T0.drew = aAP at bT bC a3 aK bZ gJ HK HB pP EB O6 O7 HX140_1 HX140_2 VP KJ KK hHeld ⊢
   refine pU5 0 2 3 5 9 ?_
   refine tK5 1 (some 86) ?_
   refine tK5 4 (some 89) ?_
   refine pU2 6 7 ?_
   refine tK5 8 (some 93) ?_
   refine oN 10 (some 95) fun K hK => ?_
   refine lT 9 95 Jx ?_
   intro aO8 aOZ SF hb
   have HS2_ := (hb.cell (World.block_lt_of_cell? _ _ (hHeld.2.2.1))).trans (hHeld.2.2.1)
   have HS3_ := (hb.cell (World.block_lt_of_cell? _ _ (hHeld.2.2.2.1))).trans (hHeld.2.2.2.1)
   have HS4_ := (hb.cell (World.block_lt_of_cell? _ _ (hHeld.2.2.2.2))).trans (hHeld.2.2.2.2)
   replace bC := am (Kd.D9 DM (Kd.bL SF) hb)
   have D4 := am (Kd.cO (Kd.eF (Kd.eF (Kd.eF SF (Kd.R_lt qX)) (Kd.R_lt (rR pP.out))) (Kd.R_lt (rR EB.out))) (kz w g tZ))
   replace bT := am (Kd.dJ qX (Kd.bL SF) hb)
   replace pP := am (Kd.dJ (rR pP.out) (Kd.bL SF) hb)
   replace EB := am (Kd.dJ (rR EB.out) (Kd.bL SF) hb)
   replace a3 := bB aQ hb
   replace aK := bB cA hb
   replace bZ := bB sN hb
   replace O6 := am (Kd.bK (by repeat (first | (with_reducible exact O6.1) | (with_reducible refine Kd.gU ?_ _) | (with_reducible refine Kd.gV ?_ _) | (with_reducible refine Kd.iW ?_) | exact O6.1)) hb)
   replace HX140_1 := am (mJ hb HX140_1.out)
   replace O7 := am (Kd.bK (by repeat (first | (with_reducible exact O7.1) | (with_reducible refine Kd.gU ?_ _) | (with_reducible refine Kd.gV ?_ _) | (with_reducible refine Kd.iW ?_) | exact O7.1)) hb)
   replace HX140_2 := am (mJ hb HX140_2.out)
   replace HK := kU w g tZ hb
   replace HB := bS xZ hb
   replace gJ := am (aD.below oD hb)
   clear hb SF
   obtain ⟨WR, XF, Wm⟩ := Kd.bN D4.1
   (first | subst Wm | (obtain ⟨f4_, f5_⟩ := sj Wm; subst f4_; subst f5_))
   refine hK.out _ _ ⟨(bF bZ.1 0).trans rfl, (bF bZ.1 1).trans rfl, HS2_, HS3_, HS4_⟩ (fun hHeld => ?_)
   clear hK K
   refine nM ?_
   refine oN 11 (some 96) fun K hK => ?_
   refine wF Try.func101 (by kernel_rfl) rfl #[.pointer (some ⟨g, 0, none⟩), .slice WR Bx.length XF] (by rfl) rfl rfl FO ?_
   with_reducible refine (fU.calls kj3 g d4 wQ _ _ Bx Tr vq w0 _ ?side1 ?side2 ?side3 ?side4 ?side5 a3H.out).mono ?_
   (case side1 => exact oD)
   (case side2 => exact xZ)
   (case side3 => exact pC (Kd.aT D4.1).2.2)
   (case side4 => exact (Kd.aT D4.1).2.1)
   (case side5 => exact oO (aD.own_ne gJ.out D4.1 (by decide)))
   rintro e aAR ⟨rfl, hi, hb, hk⟩
   have HS2_ := kC hk (hHeld.2.2.1) Ha
   have HS3_ := kC hk (hHeld.2.2.2.1) Ha
   have HS4_ := kC hk (hHeld.2.2.2.2) Ha
   refine ⟨_, rfl, ?_⟩
   replace bT := iR oD qX hk
   replace a3 := kb aQ hk fF
   replace aK := kb cA hk hJ
   replace bZ := kb sN hk jJ
   replace pP := am (Kd.aM (Kd.lQ (aD.apart (show aD w0 _ g d4 wQ from oD) (rR pP.out) (by decide)) hk (fun _ h => h.2)) (fun _ h => h.1))
   replace HX140_1 := am (kC hk HX140_1.out Th)
   replace EB := am (Kd.aM (Kd.lQ (aD.apart (show aD w0 _ g d4 wQ from oD) (rR EB.out) (by decide)) hk (fun _ h => h.2)) (fun _ h => h.1))
   replace HX140_2 := am (kC hk HX140_2.out Th)
   replace bC := iS oD DM hk
   replace D4 := iR oD (rR D4.1) hk
   replace HK := kT w g tZ hk
   replace HB := am hb
   replace gJ := am hi
   clear hb hk hi
   obtain ⟨vP, aG1, Wo, Wr, gl115, cl115, HG115⟩ := Kd.ZK bC.1 (by have h_ : (eV : Int) < ((fO.length : Int) : Int) := oT; have h2_ : 0 ≤ (eV : Int) := (oT); omega)
   (first | cases Wo | (injection Wo with ea_ en_ ec_; (first | subst ea_ | (injection ea_ with ea_; subst ea_)); subst ec_; clear en_))
   have GB115 := am Wr
   have GG115 := am HG115
   clear Wr gl115 HG115
   (first | simp only [add_plain] at VP | skip)
   (first | simp only [add_plain] at KJ | skip)
   (first | simp only [add_plain] at KK | skip)
   obtain ⟨oki115, ce115, hcl115, hM115, hcc115, _, _, hH115⟩ := Kd.U3 bC.1 z56 (eV : Int) (oT) (by have h_ : (eV : Int) < ((fO.length : Int) : Int) := oT; first | exact h_ | (have e_ := (Kd.uM bC.1).1; omega) | simpa using h_)
   obtain ⟨ve115_1, ve115_2, rfl, Dz, Ea⟩ := zO hM115
   have Mv := PX hM115
   clear hM115
   have Ex := hcc115 1 _ rfl
   have hX115 := HX140_1.out
   (try simp only [add_plain] at hX115)
   (try simp only [Nat.add_zero] at Ex)
   replace Ex := Option.some.inj (Ex.symm.trans hX115)
   subst Ex
   clear hX115 hcc115 hcl115
   have UU115 := am (show Kd.R Kd.string 9 _ w.heap.size oki115 (.slice YU ((aC fO eV).f1).length ZX) ((aC fO eV).f1) from Dz)
   have HH115 := am hH115
   have HN115 := am (Kd.uM bC.1).1
   have HE115_2 := am Ea
   have HSp115 := am Mv
   clear Mv
   clear hH115 Dz Ea
   refine hK.out _ _ ⟨(bF bZ.1 0).trans rfl, (bF bZ.1 1).trans rfl, HS2_, HS3_, HS4_⟩ (fun hHeld => ?_)
   clear hK K
   refine nM ?_
   refine oN 12 (some 97) fun K hK => ?_
   refine yJ (w1 := ?_) (v := ?_) (by rfl) rfl ?_ ?_
   rotate_left 2
   ·go_simp
    constructor
    ·rfl
    ·rfl
   refine hK.out _ _ ⟨(bF (dE bZ.1 _) 0).trans rfl, (bF (dE bZ.1 _) 1).trans rfl, (World.cell?_alloc_lt _ _ _ (World.block_lt_of_cell? _ _ (hHeld.2.2.1))).trans (hHeld.2.2.1), (World.cell?_alloc_lt _ _ _ (World.block_lt_of_cell? _ _ (hHeld.2.2.2.1))).trans (hHeld.2.2.2.1), (World.cell?_alloc_lt _ _ _ (World.block_lt_of_cell? _ _ (hHeld.2.2.2.2))).trans (hHeld.2.2.2.2)⟩ (fun hHeld => ?_)
   clear hK K
   refine nM ?_
   refine oN 13 (some 98) fun K hK => ?_
   refine Kd.oI Kd.string w.heap.size (by rfl) (.tmp 93) (.tmp 97) 23 9 (.string ⟨#[]⟩) 16 rfl Try.underlying23 jT rfl (by decide) (by omega) (.slice YU ((aC fO eV).f1).length ZX) ((aC fO eV).f1) Tr [.string Tr] (fun k_ => oki115 k_ ∨ ((fun k_ => some k_ ≠ (.slice o3 eK.length nW : Value).ownBlock ∧ some k_ ≠ (.slice WR Bx.length XF : Value).ownBlock)) k_ ∧ aAR.heap.size ≤ k_) (fun _ => False) rfl rfl ?aP (fun _ hk => hk.elim) ?aF ?aO (Below.refl _ _) ?aS ?aL ?_
   (case aP => exact rfl)
   (case aF => exact (fun k_ hk => .inr ⟨⟨Kd.fresh' (Kd.R_lt qX) k_ hk, Kd.fresh' (Kd.R_lt (rR D4.1)) k_ hk⟩, hk⟩))
   (case aO => exact (by refine rR ?_; exact Kd.aM UU115.out (fun _ hk => .inl hk)))
   (case aS => exact (kz w g tZ))
   (case aL => have := Zj.out; omega)
   intro Tw QZ ho hb hg hat
   (first | have HS2_ := cell_grown hg (hHeld.2.2.1) Hc | have HS2_ := cell_grown hg (tY (hHeld.2.2.1) He) Hc)
   (first | have HS3_ := cell_grown hg (hHeld.2.2.2.1) Hc | have HS3_ := cell_grown hg (tY (hHeld.2.2.2.1) He) Hc)
   (first | have HS4_ := cell_grown hg (hHeld.2.2.2.2) Hc | have HS4_ := cell_grown hg (tY (hHeld.2.2.2.2) He) Hc)
   rw [← RP.out] at ho
   have n0_ := am (Kd.D8 qX rfl hg (fun k_ e_ => (pP.out.1 k_ e_).1.1))
   have n1_ := gkR aQ hg pP a3
   have n2_ := gkR cA hg pP aK
   have n3_ := gkR sN hg pP bZ
   have n4_ := am (aD.grown oD hg (aD.own_ne gJ.out pP.out (by decide)))
   have n5_ := am (Kd.D8 (rR D4.1) rfl hg (fun k_ e_ => (pP.out.1 k_ e_).2))
   have n6_ := am (oF xZ HL.out hb)
   have n7_ := am (aW.trans tZ (aW.qW hg g) (Kd.BS pP.out))
   have n8_ := am (Kd.Cu (Kd.Cw (by repeat (first | exact HH115.out | refine Kd.Cs ?_ _ | refine Kd.Ct ?_ _ | refine Kd.Iw ?_))) hg (fun k_ e_ => .inl (UU115.out.1 k_ e_)))
   have n9_ := am (Kd.D8 (rR HE115_2.out) rfl hg (fun k_ e_ => fun e2_ => HSp115.out k_ e_ e2_.symm))
   have n10_ := am (ik HSp115.out hat (rR HE115_2.out))
   have n11_ := am ho
   clear bT
   clear a3
   clear aK
   clear bZ
   clear gJ
   clear D4
   clear HB
   clear HK
   clear HH115
   clear HE115_2
   clear HSp115
   clear bC
   clear UU115
   clear pP
   clear EB
   have bT := n0_
   have a3 := n1_
   have aK := n2_
   have bZ := n3_
   have gJ := n4_
   have D4 := n5_
   have HB := n6_
   have HK := n7_
   have HH115 := n8_
   have HE115_2 := n9_
   have HSp115 := n10_
   have JP := n11_
   clear n0_ n1_ n2_ n3_ n4_ n5_ n6_ n7_ n8_ n9_ n10_ n11_
   clear ho hb hg hat
   have uK : 0 ≤ (eV : Int) := oT
   have uL : (eV : Int) < ((fO.length : Int) : Int) := oT
   replace uK := eq_true uK
   replace uL := eq_true uL
   obtain ⟨D1, DE, Wp⟩ := Kd.bN JP.1
   (first | subst Wp | (obtain ⟨f4_, f5_⟩ := sj Wp; subst f4_; subst f5_))
   obtain ⟨_, _, hraw117, _, _, hcc117, _⟩ := Kd.Cv HH115.out (oT) (by have h_ : (eV : Int) < ((fO.length : Int) : Int) := oT; first | exact h_ | (have e_ := (HN115.out); omega) | simpa using h_)
   obtain ⟨_, hfr117⟩ := Kd.H_at HH115.out (oT) (by have h_ : (eV : Int) < ((fO.length : Int) : Int) := oT; first | exact h_ | (have e_ := (HN115.out); omega) | simpa using h_)
   have OK := hcc117 1 _ rfl
   have hf117_0 := hfr117 1
   (try rw [show (k56).sz = 3 from rfl] at OK)
   (try rw [show (k56).sz = 3 from rfl] at hf117_0)
   have HP117 := Kd.Kh HH115.out (oT) (by have h_ : (eV : Int) < ((fO.length : Int) : Int) := oT; first | exact h_ | (have e_ := (HN115.out); omega) | simpa using h_) (seg := [.slice D1 DX.length DE]) (j := 1) (show 2 ≤ 3 from by decide) (x' := (⟨(aC fO eV).f0, DX, (aC fO eV).f2⟩ : S56)) (KM _ _ _ (⟨(aC fO eV).f0, DX, (aC fO eV).f2⟩ : S56) JP.1 (Kd.aM HE115_2.out (fun _ h_ => .inl h_)) HSp115.out) (fun _ hk => hk)
   clear hcc117 hfr117
   have HN0_go115 := am (show g ≠ vP from by have h_ := aD.own_ne gJ.out hraw117 (by decide); intro e_; exact h_ (by rw [e_]; rfl))
   have HNB101_go115 := am (show aJ ≠ vP from by have h_ := Kd.R_ne hraw117 a3.1 (by decide); intro e_; exact h_ (by rw [e_]; rfl))
   have HNB102_go115 := am (show aX ≠ vP from by have h_ := Kd.R_ne hraw117 aK.1 (by decide); intro e_; exact h_ (by rw [e_]; rfl))
   have HNB109_go115 := am (show gX ≠ vP from by have h_ := Kd.R_ne hraw117 bZ.1 (by decide); intro e_; exact h_ (by rw [e_]; rfl))
   have HS117 := HP117.1
   rw [← RQ.out] at HS117
   have HQ117 := am HS117
   obtain ⟨_, hgg117⟩ := Kd.tV hraw117 vP rfl
   have GG117_ := am hgg117
   clear HP117 HS117 hgg117
   refine hK.out _ _ ⟨(bF bZ.1 0).trans rfl, (bF bZ.1 1).trans rfl, HS2_, HS3_, HS4_⟩ (fun hHeld => ?_)
   clear hK K
   refine nM ?_
   refine pU2 14 15 ?_
   refine lN 16 none fun K hK => ?_
   refine wP (w1 := ?_) (by rfl) rfl ?_ ?_
   rotate_left
   ·go_simp
    rfl
   refine hK.out _ _ ?_
   clear hK K
   refine dN ?_
   have n0_ : aA (Kd.R Kd.string 9 (QZ.setCell ⟨vP, (eV : Int).toNat * 3 + 1, none⟩ (.slice D1 DX.length DE)) w.heap.size (fun k_ => some k_ ≠ (.slice WR Bx.length XF : Value).ownBlock) (.slice o3 eK.length nW) eK) := ⟨by refine rR ?_; exact Kd.aM (Kd.qO (p := ⟨vP, (eV : Int).toNat * 3 + 1, none⟩) (tR bT GG117_) (fun _ hk => hk.2) (.slice D1 DX.length DE)) (fun _ hk => hk.1.2)⟩
   have n1_ : aA (Kd.R Kd.string 9 (QZ.setCell ⟨vP, (eV : Int).toNat * 3 + 1, none⟩ (.slice D1 DX.length DE)) w.heap.size (fun k_ => some k_ ≠ (.slice o3 eK.length nW : Value).ownBlock) (.slice WR Bx.length XF) Bx) := ⟨by refine rR ?_; exact Kd.aM (Kd.qO (p := ⟨vP, (eV : Int).toNat * 3 + 1, none⟩) (tR D4 GG117_) (fun _ hk => hk.2) (.slice D1 DX.length DE)) (fun _ hk => hk.1.1.1.2)⟩
   have n2_ : aA (Kd.S k56 56 (QZ.setCell ⟨vP, (eV : Int).toNat * 3 + 1, none⟩ (.slice D1 DX.length DE)) w.heap.size (fun k_ => some k_ ≠ (.slice o3 eK.length nW : Value).ownBlock ∧ some k_ ≠ (.slice WR Bx.length XF : Value).ownBlock) (.slice (some ⟨vP, 0, none⟩) fO.length lA) R7) := ⟨rS HQ117.out⟩
   have n3_ : aA ((QZ.setCell ⟨vP, (eV : Int).toNat * 3 + 1, none⟩ (.slice D1 DX.length DE)).heap[aJ]? = some (.cells #[.slice y8 fY.length AC, .slice xO mF.length xC] 31 (0, 0))) := ⟨by refine rB ?_; refine dY ?_ HNB101_go115.out _; refine rB ?_; exact a3.1⟩
   have n4_ : aA ((QZ.setCell ⟨vP, (eV : Int).toNat * 3 + 1, none⟩ (.slice D1 DX.length DE)).heap[aX]? = some (.cells #[.slice none 0 0, .slice none 0 0] 31 (0, 0))) := ⟨by refine rB ?_; refine dY ?_ HNB102_go115.out _; refine rB ?_; exact aK.1⟩
   have n5_ : aA ((QZ.setCell ⟨vP, (eV : Int).toNat * 3 + 1, none⟩ (.slice D1 DX.length DE)).heap[gX]? = some (.cells #[.slice o3 eK.length nW, .slice (some ⟨vP, 0, none⟩) fO.length lA] 31 (0, 0))) := ⟨by refine rB ?_; refine dY ?_ HNB109_go115.out _; refine rB ?_; exact bZ.1⟩
   have n6_ : aA (aD w0 (QZ.setCell ⟨vP, (eV : Int).toNat * 3 + 1, none⟩ (.slice D1 DX.length DE)) g d4 vq) := ⟨by repeat (first | (with_reducible first | exact gJ.out | apply aD.alloc | apply aD.drewN | apply aD.drew | apply aD.FN | refine aD.far ?_ HN0_go115.out _ | refine aD.far ?_ l7.1 _ | refine aD.far ?_ lZ.1 _ | refine aD.far ?_ mY.1 _) | exact gJ.out)⟩
   have n7_ : aA (aW w (QZ.setCell ⟨vP, (eV : Int).toNat * 3 + 1, none⟩ (.slice D1 DX.length DE)) g none) := ⟨by repeat (first | (with_reducible first | exact HK.out | apply aW.set_ | apply o8 | apply jO | apply o7 | refine j6 ?_ GB115.out _ | refine j6 ?_ gH.out _ | refine j6 ?_ mP.out _ | refine j6 ?_ MO.out _) | exact HK.out)⟩
   have n8_ : aA (Below w0.heap.size w0 (QZ.setCell ⟨vP, (eV : Int).toNat * 3 + 1, none⟩ (.slice D1 DX.length DE))) := ⟨by repeat (first | (with_reducible first | exact HB.1 | apply cZ | apply bR | apply aV | refine bI ?_ (Nat.le_trans HL.out GB115.out) | refine bI ?_ (aD.ge gJ.out) | refine bI ?_ iE.1 | refine bI ?_ nX.1 | refine bI ?_ MN.1) | exact HB.1)⟩
   (try clear bT)
   (try clear D4)
   (try clear bC)
   (try clear a3)
   (try clear aK)
   (try clear bZ)
   (try clear gJ)
   (try clear HK)
   (try clear HB)
   generalize (QZ.setCell ⟨vP, (eV : Int).toNat * 3 + 1, none⟩ (.slice D1 DX.length DE)) = aP2 at n0_ n1_ n2_ n3_ n4_ n5_ n6_ n7_ n8_ ⊢
   have bT := n0_
   have D4 := n1_
   have bC := n2_
   have a3 := n3_
   have aK := n4_
   have bZ := n5_
   have gJ := n6_
   have HK := n7_
   have HB := n8_
   clear n0_ n1_ n2_ n3_ n4_ n5_ n6_ n7_ n8_
   have aLO := cz2 bZ
   have aLP := nZ2 dQ dP hJ lZ
   have a5I := cz2 aK
   try go_wp2
   refine cR aX 31 #[.slice o3 eK.length nW, .slice (some ⟨vP, 0, none⟩) fO.length lA] (qP aK) Try.underlying31 ?_
   refine toN_ ?_
   exact ⟨_, _, eR, mR bT aK, mS bC aK, oD, xZ, tZ⟩
  ·replace bT := RD bT
   replace bC := SD bC
   replace a3 := BD a3
   replace aK := BD aK
   replace bZ := BD bZ
   replace gJ := am (aD.drew gJ.out)
   replace HK := am (jO HK.out)
   replace HB := am (aV HB.1)
   have VW : 0 ≤ (eV : Int) := oT
   have WC : eV < (fO.length : Int) := oT
   have HN := am (show Kd.N k56 56 T0.drew w.heap.size (F14 w (.slice o3 eK.length nW) g aJ aX gX) _ fO from Kd.aU (Kd.S_N (Kd.rJ bC.1)) (fun k_ hk => ⟨hk.2.1, hk.1, fq hk.2.2.2 gJ.out, U6 hk.2.2.2 a3.1 (by decide), U6 hk.2.2.2 aK.1 (by decide), U6 hk.2.2.2 bZ.1 (by decide)⟩))
   clear bC
   obtain ⟨FJ, Ia, Kx, TD, U8, ck, H5, zE, zF, OC, OA, OD, OB⟩ := x9 (Kd.cB HN.out).2.2 eV VW WC
   cases ck
   clear OC OA OD OB
   obtain ⟨ce_, hce_, hMe_, hcc_⟩ := Kd.WZ HN.out z56 eV VW WC
   obtain ⟨ua1, uc1, ua2, uc2, rfl, ul1, ge1, ul2, ge2⟩ := qV hMe_
   have lf := hcc_ 1 _ rfl
   rw [mO _ _ 1 (by omega)] at lf
   replace lf := Option.some.inj (lf.symm.trans zE)
   have lg := hcc_ 2 _ rfl
   rw [mO _ _ 2 (by omega)] at lg
   replace lg := Option.some.inj (lg.symm.trans zF)
   injection lf with lf _ hw1
   injection lg with lg _ hw2
   subst lf; subst hw1; subst lg; subst hw2
   clear hcc_ hce_ ul1 ge1 ul2 ge2
   have FKE := am (show Kd.FK k56 T0.drew (fun k => (F14 w (.slice o3 eK.length nW) g aJ aX gX) k ∧ some k ≠ (.slice (some FJ) fO.length lA : Value).ownBlock) (aC fO eV) [.string (aC fO eV).f0, .slice ua1 (aC fO eV).f1.length uc1, .slice ua2 (aC fO eV).f2.length uc2] from hMe_)
   clear hMe_
   replace VW := eq_true VW
   replace WC := eq_true WC
   refine sT [10] 11 (uA2 bZ) (fun hHeld => ?_)
   generalize T0.drew = wx at bT HN a3 aK bZ gJ HK HB FKE H5 zE zF hHeld ⊢
   refine pU0 0 (some 103) ?_
   refine pU0 2 (some 105) ?_
   refine pU0 4 (some 107) ?_
   refine tK2_ 1 (some 104) ?_
   refine tK2_ 3 (some 106) ?_
   refine pU0 5 (some 108) ?_
   refine oM 6 (some 109) fun K hK => ?_
   refine yJ (w1 := ?_) (v := ?_) (by rfl) rfl ?_ ?_
   rotate_left 2
   ·go_simp
    constructor
    ·rfl
    ·rfl
   refine nK hK (uA2 bZ).1 fun hHeld => ?_
   clear hK K
   refine oM 7 (some 110) fun K hK => ?_
   refine yJ (w1 := ?_) (v := ?_) (by rfl) rfl ?_ ?_
   rotate_left 2
   ·go_simp
    constructor
    ·rfl
    ·rfl
   refine hK.out _ _ ⟨(bF (dE bZ.1 _) 0).trans rfl, (bF (dE bZ.1 _) 1).trans rfl⟩ (fun hHeld => ?_)
   clear hK K
   refine nM ?_
   refine oM 8 (some 111) fun K hK => ?_
   refine Kd.CP k56 w.heap.size (by rfl) (.tmp 104) (.tmp 110) 29 56 Ag0 64 rfl Try.underlying29 rP rfl (by decide) (by omega) (.slice (some FJ) fO.length lA) fO (aC fO eV) [.string (aC fO eV).f0, .slice ua1 (aC fO eV).f1.length uc1, .slice ua2 (aC fO eV).f2.length uc2] (F14 w (.slice o3 eK.length nW) g aJ aX gX) (fun k => (F14 w (.slice o3 eK.length nW) g aJ aX gX) k ∧ some k ≠ (.slice (some FJ) fO.length lA : Value).ownBlock) rfl rfl FKE.out (fun _ hk => hk) (fun k_ hk => ⟨Nat.le_trans HK.out.1 hk, Kd.fresh' (Kd.R_lt bT.1) k_ hk, fun e_ => absurd (fo gJ.out) (by omega), Kd.AP a3.1 k_ hk, Kd.AP aK.1 k_ hk, Kd.AP bZ.1 k_ hk⟩) HN.out (Below.refl _ _) HK.out.1 (by have := LM.out; omega) ?_
   intro vN Tz ho hb hg hat
   replace bT := am (Kd.rH bT.1 (Kd.iV HN.out) (by decide) hg)
   replace a3 := am (vM a3.1 hg (Kd.N_ne HN.out a3.1 (by decide)))
   replace aK := am (vM aK.1 hg (Kd.N_ne HN.out aK.1 (by decide)))
   replace bZ := am (vM bZ.1 hg (Kd.N_ne HN.out bZ.1 (by decide)))
   replace gJ := am (aD.grown gJ.out hg (aD.Fh gJ.out HN.out (by decide)))
   replace HK := am (aW.trans HK.out (aW.qW hg g) (Kd.Qx HN.out))
   replace HN := am ho
   replace HB := am (oF HB.1 HL.out hb)
   clear FKE H5 zE zF ho hb hg hat
   generalize hyy : fO ++ [aC fO eV] = yN at HN ⊢
   obtain ⟨Ag, cg, rfl⟩ := Kd.iJ HN.out
   refine nK hK (uA2 bZ).1 fun hHeld => ?_
   clear hK K
   refine pU0 9 (some 112) ?_
   refine Ff (i := 10) (N := none) (bz 11 2047) rfl rfl (by kernel_rfl) (by decide) (fun K hK => ?_)
   have hs8 : Tz.cell? ⟨gX, 1, none⟩ = some (.slice (some FJ) fO.length lA) := (bF bZ.1 1).trans rfl
   have a8S := fV bZ.1 1
   refine wP (w1 := (Tz.setCell ⟨gX, 1, none⟩ (.slice Ag yN.length cg))) (by rfl) rfl ?_ ?_
   ·go_simp
    (try rfl)
   refine hK.out _ _ ?_
   clear hK K
   refine JY (by kernel_rfl) ?_
   clear hs8 a8S
   have n0_ := am (Kd.aM (Kd.qO (p := ⟨gX, 1, none⟩) (tR bT bZ) (fun _ hk => hk.2) (.slice Ag yN.length cg)) (fun _ hk => hk.1))
   have n1_ := am (Kd.BR (p := ⟨gX, 1, none⟩) HN.out (fun _ hk => hk.2.2.2.2.2) (.slice Ag yN.length cg))
   have n2_ := am (dY (p := ⟨gX, 1, none⟩) a3.1 iN.1 (.slice Ag yN.length cg))
   have n3_ := am (dY (p := ⟨gX, 1, none⟩) aK.1 lH.1 (.slice Ag yN.length cg))
   have n4_ := am (eH (cs := #[.slice o3 eK.length nW, .slice (some FJ) fO.length lA]) bZ.1 1 (.slice Ag yN.length cg) rfl)
   have n5_ : aA (aD w0 (Tz.setCell ⟨gX, 1, none⟩ (.slice Ag yN.length cg)) g d4 wQ) := ⟨by refine aD.far ?_ mY.1 _; exact gJ.out⟩
   have n6_ : aA (aW w (Tz.setCell ⟨gX, 1, none⟩ (.slice Ag yN.length cg)) g none) := ⟨by refine j6 ?_ MO.out _; exact HK.out⟩
   have n7_ : aA (Below w0.heap.size w0 (Tz.setCell ⟨gX, 1, none⟩ (.slice Ag yN.length cg))) := ⟨by refine bI ?_ MN.1; exact HB.1⟩
   clear bT HN a3 aK bZ gJ HK HB
   change aA ((Tz.setCell ⟨gX, 1, none⟩ (.slice Ag yN.length cg)).heap[gX]? = some (.cells #[.slice o3 eK.length nW, .slice Ag yN.length cg] 31 (0, 0))) at n4_
   generalize (Tz.setCell ⟨gX, 1, none⟩ (.slice Ag yN.length cg)) = wy at n0_ n1_ n2_ n3_ n4_ n5_ n6_ n7_ ⊢
   have bT := n0_
   have HN := n1_
   have a3 := n2_
   have aK := n3_
   have bZ := n4_
   have gJ := n5_
   have HK := n6_
   have HB := n7_
   clear n0_ n1_ n2_ n3_ n4_ n5_ n6_ n7_
   have ti : wy.cell? ⟨gX, 0, none⟩ = some (.slice o3 eK.length nW) := (bF bZ.1 0).trans rfl
   have tw := fV bZ.1 0
   have tj : wy.cell? ⟨gX, 1, none⟩ = some (.slice Ag yN.length cg) := (bF bZ.1 1).trans rfl
   have tx := fV bZ.1 1
   have tg : wy.cell? ⟨aX, 0, none⟩ = some (.slice none 0 0) := (bF aK.1 0).trans rfl
   have tu := fV aK.1 0
   have th : wy.cell? ⟨aX, 1, none⟩ = some (.slice none 0 0) := (bF aK.1 1).trans rfl
   have tv := fV aK.1 1
   have hnbz1 := dQ.1
   have hnbz2 := dP.1
   have hnbz3 := hJ.1
   have hnbz4 := lZ.1
   try go_wp2
   refine cR aX 31 #[.slice o3 eK.length nW, .slice Ag yN.length cg] (eH (cs := #[.slice o3 eK.length nW, .slice none 0 0]) (eH (cs := #[.slice none 0 0, .slice none 0 0]) aK.1 0 _ rfl) 1 _ rfl) Try.underlying31 ?_
   rw [hyy]
   refine ⟨_, _, rfl, Kd.aM (Kd.rG (fR (fR (tR bT aK)))) (fun _ hk => hk.2.1), Kd.aU (Kd.BR (p := ⟨aX, 1, none⟩) (Kd.BR (p := ⟨aX, 0, none⟩) HN.out (fun _ hk => hk.2.2.2.2.1) (.slice o3 eK.length nW)) (fun _ hk => hk.2.2.2.2.1) (.slice Ag yN.length cg)) (fun _ hk => ⟨hk.1, hk.2.1⟩), ?_, ?_, ?_⟩
   ·refine aD.far ?_ lZ.1 _; refine aD.far ?_ lZ.1 _; exact gJ.out
   ·exact bI (bI HB.1 nX.1) nX.1
   ·refine j6 ?_ mP.out _; refine j6 ?_ mP.out _; exact HK.out
  ·go_loopg [8] kj3 (fun kq v8 w' => ∃ (oB : Int) (uD : List (S56)) (F9 : Value), v8 = .int .i64 oB ∧ aA (bJ.l0 kq (wrap64 (5 + Om)) oB d4 NV eK uD = some (r1, r2, r3)) ∧ aA (kq ≤ kj3) ∧ aA (Kd.R Kd.string 9 w' w.heap.size (fun _ => True) (.slice o3 eK.length nW) eK) ∧ aA (Kd.S k56 56 w' w.heap.size (fun k_ => some k_ ≠ ((.slice o3 eK.length nW) : Value).ownBlock) F9 uD) ∧ aA (w'.heap[aJ]? = some (.cells #[(.slice y8 fY.length AC), (.slice xO mF.length xC)] 31 (0, 0))) ∧ aA (w'.heap[aX]? = some (.cells #[(.slice none 0 0), (.slice none 0 0)] 31 (0, 0))) ∧ aA (w'.heap[gX]? = some (.cells #[(.slice o3 eK.length nW), F9] 31 (0, 0))) ∧ aA (aD w0 w' g d4 NV) ∧ aA (aW w w' g none) ∧ aA (Below w0.heap.size w0 w'))
   case atStart => exact ⟨(0), (fO), (.slice QG fO.length lA), dH, H', ⟨Nat.le_refl _⟩, ⟨rR bT.1⟩, ⟨rS bC.1⟩, ⟨rB a3.1⟩, ⟨rB aK.1⟩, ⟨rB bZ.1⟩, ⟨oD⟩, ⟨tZ⟩, ⟨xZ⟩⟩
   case round =>
    clear H'
    try clear c71
    try clear rl
    try clear rm
    try clear c98
    try clear Wg
    try clear rq
    try clear a6A
    try clear aw
    try clear ax
    try clear a5K
    obtain ⟨oB, uD, F9, rfl, HA, HK2, bT, bC, a3, aK, bZ, gJ, HK, HB⟩ := hrel
    cases gk with
    | zero => exact absurd HA.out (by simp [bJ.l0])
    | succ k2 =>
     have H := HA.out
     clear HA
     simp only [bJ.l0] at H
     refine ic H ?_ ?_ <;> clear H <;> intro a6D H
     ·obtain ⟨L1, a3U, H⟩ := bd H
      by_cases Ky : 1 + L1.size ≤ 9223372036854775807
      ·rw [if_pos Ky] at H
       have a6E := eq_true Ky
       have a6F : decide (1 + L1.size ≤ 9223372036854775807) = true := decide_eq_true Ky
       try have a6G : (9223372036854775807 < 1 + L1.size) = False := eq_false (Nat.not_lt.2 Ky)
       obtain ⟨Zk, H⟩ := cL H
       obtain ⟨LD, JT⟩ := yv (uD ++ [(⟨(⟨#[122]⟩ : ByteArray) ++ L1, ([] : List ByteArray), ([] : List ByteArray)⟩ : S56)]); first | replace H := bW JT H | rw [← JT.1] at H
       have H' := am H
       repeat clear H
       have aLT := nZ3 kS iN oL lH jJ mY
       have aLU := cz2 bZ
       obtain ⟨Ib, Li, sg⟩ := Kd.GU bC.1
       subst sg
       try go_wp2
       replace bT := RD bT
       replace bC := SD bC
       replace a3 := BD a3
       replace aK := BD aK
       replace bZ := BD bZ
       replace gJ := am (aD.drew gJ.out)
       replace HK := am (jO HK.out)
       replace HB := am (aV HB.1)
       refine sT [9] 10 (uA2 bZ) (fun hHeld => ?_)
       refine dZ bJ.vw bJ.ai (fun HT_ HW_ => ?_)
       generalize wr.drew = aP6 at bT bC a3 aK bZ gJ HK HB hHeld ⊢
       refine pU2 0 2 ?_
       refine tK2 1 (some 47) ?_
       refine oN 3 (some 49) fun K hK => ?_
       refine gQ Try.func131 (BB.calls oB L1 _ a3U.out) ?_
       rintro aP7 hb
       replace bT := RB qX hb
       replace bC := SB DM hb
       replace a3 := bB aQ hb
       replace aK := bB cA hb
       replace bZ := bB sN hb
       replace HK := kU w g tZ hb
       replace HB := bS xZ hb
       replace gJ := am (aD.below oD hb)
       clear hb
       refine nK hK (uA2 bZ).1 fun hHeld => ?_
       clear hK K
       refine pU2 4 5 ?_
       refine oN 6 (some 52) fun K hK => ?_
       refine yJ (w1 := ?_) (v := ?_) (by rfl) rfl ?_ ?_
       rotate_left 2
       ·go_simp
        constructor
        ·rfl
        ·rfl
       refine hK.out _ _ ⟨(bF (dE bZ.1 _) 0).trans rfl, (bF (dE bZ.1 _) 1).trans rfl⟩ (fun hHeld => ?_)
       clear hK K
       refine nM ?_
       refine oN 7 (some 53) fun K hK => ?_
       refine Kd.I9 k56 w.heap.size (by rfl) (.tmp 47) (.tmp 52) 29 56 Ag0 64 rfl Try.underlying29 rP rfl (by decide) (by omega) (.slice Ib uD.length Li) uD (⟨(⟨#[122]⟩ : ByteArray) ++ L1, ([] : List ByteArray), ([] : List ByteArray)⟩ : S56) [.string ((⟨#[122]⟩ : ByteArray) ++ L1), .slice none 0 0, .slice none 0 0] (fun k_ => some k_ ≠ (.slice o3 eK.length nW : Value).ownBlock) (fun _ => False) rfl rfl ?aP (fun k_ hk_ => hk_.elim) ?aF ?aO (Below.refl _ _) ?aS ?aL ?_
       (case aP => exact KM _ _ _ (⟨(⟨#[122]⟩ : ByteArray) ++ L1, ([] : List ByteArray), ([] : List ByteArray)⟩ : S56) (Kd.vJ _ _ _ _ _) (Kd.vJ _ _ _ _ _))
       (case aF => exact (fun k_ hk => Kd.fresh' (Kd.R_lt qX) k_ hk))
       (case aO => exact (by refine rS ?_; exact Kd.CQ bC.1 (fun k_ hk => ⟨hk, fun e_ => e_⟩)))
       (case aS => exact (kz w g tZ))
       (case aL => have := Zk.out; omega)
       intro Hr aAT ho hb hg hat
       rw [← JT.out] at ho
       replace bT := am (Kd.rH qX (Kd.GV DM) (by decide) hg)
       replace a3 := gkS aQ hg bC a3
       replace aK := gkS cA hg bC aK
       replace bZ := gkS sN hg bC bZ
       replace HB := am (oF xZ HL.out hb)
       replace gJ := am (aD.grown oD hg (aD.zG gJ.out bC.1 (by decide)))
       replace HK := am (aW.trans tZ (aW.qW hg g) (Kd.Rb bC.1))
       have uE := am ho
       clear bC
       clear ho hb hg hat
       obtain ⟨ly, rx, Wq⟩ := Kd.GU uE.1
       (first | subst Wq | (obtain ⟨f4_, f5_⟩ := sj Wq; subst f4_; subst f5_))
       refine nK hK (uA2 bZ).1 fun hHeld => ?_
       clear hK K
       refine pU1 8 ?_
       refine lN 9 none fun K hK => ?_
       have aI8 : aAT.cell? ⟨gX, 1, none⟩ = some (.slice Ib uD.length Li) := (bF bZ.1 1).trans rfl
       have a8R := fV bZ.1 1
       have ur := iN.1
       have ut := lH.1
       have uk := kS.1
       have ul := oL.1
       refine wP (w1 := ?_) (by rfl) rfl ?_ ?_
       rotate_left
       ·go_simp
        rfl
       refine hK.out _ _ ?_
       clear hK K
       refine dN ?_
       try go_wp2
       go_roundg k2
       case measure => have := HJ3.out; have := HK2.out; omega
       case rel => exact ⟨(wrap64 (oB + 1)), (LD), (.slice ly LD.length rx), dH, H', ⟨by have := HJ3.out; have := HK2.out; omega⟩, ⟨mR bT bZ⟩, ⟨mS uE bZ⟩, ⟨qF a3 iN⟩, ⟨qF aK lH⟩, ⟨by refine rB ?_; refine eH (cs := #[.slice o3 eK.length nW, .slice Ib uD.length Li]) ?_ 1 _ rfl; refine rB ?_; exact bZ.1⟩, ⟨oD⟩, ⟨tZ⟩, ⟨xZ⟩⟩
      ·rw [if_neg Ky] at H
       exact absurd H (by simp)
     ·obtain ⟨rfl, rfl, rfl⟩ := sZ3 H
      repeat clear H
      have aLV := nZ3 kS iN oL lH jJ mY
      have aLW := cz2 bZ
      obtain ⟨lz, ry, si⟩ := Kd.GU bC.1
      subst si
      have aLX := nZ2 dQ dP hJ lZ
      have aLY := cz2 aK
      go_wp2
      refine cR aX 31 #[.slice o3 eK.length nW, .slice lz uD.length ry] (qP aK) Try.underlying31 ?_
      refine toN_ ?_
      exact ⟨_, _, eR, mR bT aK, mS bC aK, oD, xZ, tZ⟩
end Go.Proofs.Ytaofjgnhapnndaa.Q
namespace Go.Proofs.Ytaofjgnhapnndaa.Q
open Go.RowKit Go.Proofs.YtaofjgnhapnndaaW.PrintWords Go.Proofs.YtaofjgnhapnndaaW.PrintLast Go.Proofs.YtaofjgnhapnndaaW.PrintMore
set_option linter.unusedVariables false
set_option linter.unusedSimpArgs false
def qC.f (k : Nat) (d4 : List Int) (hG : Int) : Option (List ByteArray × (List (S56)) × Int) := (kH.f k d4 hG).bind fun a => ((bE.f k d4 a.2.2 20).bind fun b => (if b.1 = 0 then ((bJ.f k d4 b.2 a.1 a.2.1).bind fun c => (some (c.1, c.2.1, c.2.2))) else (some (a.1, a.2.1, b.2))))
theorem qC.calls (k : Nat) (g : Nat) (d4 : List Int) (hG : Int) (r1 : List ByteArray) (r2 : List (S56)) (r3 : Int) (w0 w : World) (hI : aD w0 w g d4 hG) (hB : Below w0.heap.size w0 w) (h : qC.f k d4 hG = some (r1, r2, r3)) :
  Calls Try.prog 98 #[.pointer (some ⟨g, 0, none⟩)] w fun e w' => ∃ v0_ v1_ : Value, e = .returned (.agg #[v0_, v1_]) ∧ Kd.R Kd.string 9 w' w.heap.size (fun k_ => (w.heap.size ≤ k_)) v0_ r1 ∧ Kd.N k56 56 w' w.heap.size (F10 w v0_) v1_ r2 ∧ aD w0 w' g d4 r3 ∧ Below w0.heap.size w0 w' ∧ aW w w' g none := by
 have hu31 := Try.underlying31
 have gJ := am hI
 have HK := am (aW.refl w g none)
 have HL := am hB.size
 clear hI
 have HW0 := am hB.size
 have HB := am hB
 clear hB
 unfold qC.f at h
 have H := h
 clear h
 obtain ⟨⟨kQ, fI, fW⟩, A2, H⟩ := bd H
 dsimp only at H
 obtain ⟨⟨vD, dD⟩, A3, H⟩ := bd H
 dsimp only at H
 refine iq H ?_ ?_ <;> clear H <;> intro c4 vT Gh H
 obtain ⟨⟨l6, oS, wU⟩, A5, H⟩ := bd H
 dsimp only at H
 obtain ⟨rfl, rfl, rfl⟩ := sZ3 H
 repeat clear H
 have Dd := trivial
 rotate_left
 obtain ⟨rfl, rfl, rfl⟩ := sZ3 H
 repeat clear H
 have Uz := trivial
 rotate_left
 all_goals
  go_enter Try.func98, Try.ntmps98
  go_wp2_with (first | ((with_reducible refine gD 2 ?_); refine bX 2 #[.slice none 0 0, .slice none 0 0] 31 ?_; intro aJ hg aJW hbox hb; replace HB := bS BJ hb; have a3 := am hbox; have gH := am (QS : w.heap.size ≤ aJ); have iE := am (Nat.le_trans HW0.out (QS : w.heap.size ≤ aJ) : w0.heap.size ≤ aJ); replace HK := kU w g BK hb; have l7 := am (by rw [hg]; exact Nat.ne_of_lt (aD.lt (show aD w0 _ g d4 hG from tH)) : g ≠ aJ); have fF := am (by rw [hg]; exact Nat.ne_of_gt (aD.lt (show aD w0 _ g d4 hG from tH)) : aJ ≠ g); replace gJ := am (aD.below tH hb); clear hb hbox hg) | ((with_reducible refine gC 119 ?_); refine cE (some 5) Try.func119 (kH.calls k g d4 hG kQ fI fW w0 _ (CW) (VZ) A2.out) ?_; rintro e aJX ⟨Hq, BL, rfl, hD, rM, hi, hb, hk⟩; refine ⟨_, rfl, ?_⟩; have mG := am (Kd.cO (Kd.jK (M := fun k_ => (w.heap.size ≤ k_)) (Kd.aM (ok' := fun k_ => True) hD (fun _ hk_ => trivial)) (kz w g M9) (fun k_ h_ => h_)) (kz w g M9)); have kE := am (Kd.l9 (Kd.aU (ok' := F12 w Hq aJ g) rM (fun k_ hk_ => ⟨(Nat.le_trans (kz w g M9) hk_.1), hk_.2, (fB aQ k_ hk_.1), (aD.fresh CW k_ hk_.1)⟩)) (kz w g M9)); replace a3 := kb aQ hk fF; replace HK := kT w g M9 hk; replace HB := am hb; replace gJ := am hi; clear hb hk hi hD rM) | ((with_reducible refine gD 3 ?_); refine bX 3 #[.slice none 0 0, .slice none 0 0] 31 ?_; intro gX hg aJZ hbox hb; replace mG := RB NH hb; replace kE := am (Kd.iI (Kd.pX (rN kE.1) gX (Nat.le_of_eq hg.symm)) hb); replace HB := bS VZ hb; have bZ := am hbox; have MO := am (QR : w.heap.size ≤ gX); have MN := am (Nat.le_trans HW0.out (QR : w.heap.size ≤ gX) : w0.heap.size ≤ gX); replace HK := kU w g M9 hb; have iN := nL aQ hg; have kS := nG aQ hg; replace a3 := bB aQ hb; have mY := am (by rw [hg]; exact Nat.ne_of_lt (aD.lt (show aD w0 _ g d4 fW from CW)) : g ≠ gX); have jJ := am (by rw [hg]; exact Nat.ne_of_gt (aD.lt (show aD w0 _ g d4 fW from CW)) : gX ≠ g); replace gJ := am (aD.below CW hb); clear hb hbox hg; obtain ⟨FR, G8, dt⟩ := Kd.bN mG.1; subst dt; have aE0 := nZ2 kS iN jJ mY; have aE1 := cz2 bZ; obtain ⟨TI, UJ, du⟩ := Kd.iJ kE.1; subst du) | ((with_reducible refine gC 100 ?_); revert Dd; intro Dd; refine cQ (some 7) Try.func100 (bE.calls k g d4 fW 20 vD dD w0 _ (yF) (JD) A3.out) ?_; rintro aK0 ⟨hi, hb, hk⟩; replace a3 := am (aW.blk hk (g' := aJ) (o := .cells #[.slice none 0 0, .slice none 0 0] 31 (0, 0)) Nv fF.1 (by simp)); replace mG := am (Kd.aM (Kd.lQ (aD.apart (show aD w0 _ g d4 fW from yF) (by refine rR ?_; exact (Kd.aM (fR (fR (tR mG bZ))) (fun _ h_ => h_.1))) (by decide)) hk (fun _ h => h.2)) (fun _ h => h.1)); replace kE := am (Kd.aU (Kd.y9 (Kd.aU (ok := fun k_ => ((((w.heap.size ≤ k_)) ∧ (some k_ ≠ (.slice FR kQ.length G8 : Value).ownBlock ∧ (k_ ≠ aJ ∧ k_ ≠ g))) ∧ k_ ≠ gX)) (by refine rN ?_; exact (Kd.aU (fN (fN (Kd.aU kE.1 (fun k_ hk => (⟨hk, hk.2⟩ : _ ∧ k_ ≠ gX))))) (fun _ h_ => h_.1))) (fun k_ hk_ => (⟨hk_, hk_.1.2.2.2⟩ : _ ∧ k_ ≠ g))) hk (fun _ h => h.2)) (fun _ h => h.1)); replace bZ := am (aW.blk hk (g' := gX) (o := .cells #[.slice FR kQ.length G8, .slice TI fI.length UJ] 31 (0, 0)) (qP bZ) jJ.1 (by simp)); replace HK := kT w g wM hk; replace HB := am hb; replace gJ := am hi; clear hb hk hi; have aE2 := cz2 bZ) | ((with_reducible refine gC 120 ?_); revert Dd; intro Dd; refine cE (some 11) Try.func120 (bJ.calls k g d4 dD _ _ kQ _ _ fI l6 oS wU w0 _ (yF) (JD) (pC (Kd.aT mG.1).2.2) ((Kd.aT mG.1).2.1) (oO (aD.own_ne gJ.out mG.1 (by decide))) (Kd.ML (base := 0) (Kd.N_V (Kd.aU (ok := fun k_ => ((((w.heap.size ≤ k_)) ∧ (some k_ ≠ (.slice FR kQ.length G8 : Value).ownBlock ∧ (k_ ≠ aJ ∧ k_ ≠ g))) ∧ k_ ≠ gX)) (rN kE.1) (fun k_ hk_ => (⟨hk_, hk_.1.2.2.2⟩ : _ ∧ k_ ≠ g)))) (fun _ h_ => h_.2)) ((Kd.cB kE.1).2.1) A5.out) ?_; rintro e aK1 ⟨rQ, WM, rfl, hD, rM, hi, hb, hk⟩; refine ⟨_, rfl, ?_⟩; have fX := am (Kd.cO (Kd.eF (Kd.jK (M := fun k_ => (w.heap.size ≤ k_)) (Kd.aM (ok' := fun k_ => True) hD (fun _ hk_ => trivial)) (kz w g wM) (fun k_ h_ => h_)) (Kd.R_lt NH)) (kz w g wM)); have pQ := am (Kd.l9 (Kd.aU (ok' := F33 w rQ (.slice FR kQ.length G8) (.slice TI fI.length UJ) aJ gX g) rM (fun k_ hk_ => ⟨(Nat.le_trans (kz w g wM) hk_.1), hk_.2, (Kd.fresh' (Kd.R_lt NH) k_ hk_.1), (Kd.fresh' (Kd.N_lt (rN kE.1)) k_ hk_.1), (fB aQ k_ hk_.1), (fB sN k_ hk_.1), (aD.fresh yF k_ hk_.1)⟩)) (kz w g wM)); replace a3 := kb aQ hk fF; replace mG := am (Kd.aM (Kd.EM (Kd.EL (aD.apart (show aD w0 _ g d4 dD from yF) NH (by decide)) hk) (Kd.bL hD)) (fun _ h_ => h_.1)); replace kE := am (Kd.aU (Kd.nD (Kd.nD (Kd.TW (Kd.aU (ok := fun k_ => ((((w.heap.size ≤ k_)) ∧ (some k_ ≠ (.slice FR kQ.length G8 : Value).ownBlock ∧ (k_ ≠ aJ ∧ k_ ≠ g))) ∧ k_ ≠ gX)) (rN kE.1) (fun k_ hk_ => (⟨hk_, hk_.1.2.2.2⟩ : _ ∧ k_ ≠ g))) hk) (Kd.bL hD)) (Kd.uZ rM)) (fun _ h_ => h_.1)); replace bZ := kb sN hk jJ; replace HK := kT w g wM hk; replace HB := am hb; replace gJ := am hi; clear hb hk hi hD rM; obtain ⟨Yo, ca, dv⟩ := Kd.bN fX.1; subst dv; have aE3 := nZ1 fF l7; have aE4 := cz2 a3; obtain ⟨Yp, cb, dw⟩ := Kd.iJ pQ.1; subst dw) | ((with_reducible refine gC 100 ?_); revert Uz; intro Uz; refine cQ (some 7) Try.func100 (bE.calls k g d4 fW 20 vD dD w0 _ (yF) (JD) A3.out) ?_; rintro aK2 ⟨hi, hb, hk⟩; replace a3 := am (aW.blk hk (g' := aJ) (o := .cells #[.slice none 0 0, .slice none 0 0] 31 (0, 0)) Nv fF.1 (by simp)); replace mG := am (Kd.aM (Kd.lQ (aD.apart (show aD w0 _ g d4 fW from yF) (by refine rR ?_; exact (Kd.aM (fR (fR (tR mG bZ))) (fun _ h_ => h_.1))) (by decide)) hk (fun _ h => h.2)) (fun _ h => h.1)); replace kE := am (Kd.aU (Kd.y9 (Kd.aU (ok := fun k_ => ((((w.heap.size ≤ k_)) ∧ (some k_ ≠ (.slice FR kQ.length G8 : Value).ownBlock ∧ (k_ ≠ aJ ∧ k_ ≠ g))) ∧ k_ ≠ gX)) (by refine rN ?_; exact (Kd.aU (fN (fN (Kd.aU kE.1 (fun k_ hk => (⟨hk, hk.2⟩ : _ ∧ k_ ≠ gX))))) (fun _ h_ => h_.1))) (fun k_ hk_ => (⟨hk_, hk_.1.2.2.2⟩ : _ ∧ k_ ≠ g))) hk (fun _ h => h.2)) (fun _ h => h.1)); replace bZ := am (aW.blk hk (g' := gX) (o := .cells #[.slice FR kQ.length G8, .slice TI fI.length UJ] 31 (0, 0)) (qP bZ) jJ.1 (by simp)); replace HK := kT w g wM hk; replace HB := am hb; replace gJ := am hi; clear hb hk hi; have aE6 := cz2 bZ; have aE7 := nZ1 fF l7; have aE8 := cz2 a3))
 ·refine cR aJ 31 #[.slice Yo l6.length ca, .slice Yp oS.length cb] (qP a3) Try.underlying31 ?_
  exact ⟨_, _, eR, mR fX a3, by refine rN ?_; exact Kd.aU (fN (fN (Kd.aU pQ.1 (fun k_ hk => (⟨hk, hk.2.2.2.2.1⟩ : _ ∧ k_ ≠ aJ))))) (fun _ hk => ⟨hk.1.1, hk.1.2.1⟩), yF, JD, wM⟩
 refine cR aJ 31 #[.slice FR kQ.length G8, .slice TI fI.length UJ] (qP a3) Try.underlying31 ?_
 exact ⟨_, _, eR, mR mG a3, by refine rN ?_; exact Kd.aU (fN (fN (Kd.aU kE.1 (fun k_ hk => (⟨hk, hk.1.2.2.1⟩ : _ ∧ k_ ≠ aJ))))) (fun _ hk => ⟨hk.1.1.1, hk.1.1.2.1⟩), yF, JD, wM⟩
def lF.f (k : Nat) (l0 : List Int) : Option (List ByteArray × (List (S56))) := (oK.f l0).bind fun a => ((qC.f k a.1 a.2).bind fun b => (some (b.1, b.2.1)))
theorem lF.calls (k : Nat) (A0 : Option Addr) (c0 : Nat) (l0 : List Int) (r1 : List ByteArray) (r2 : List (S56)) (w : World) (r5 : Kd.C (Kd.int .u8) w A0 l0.length l0) (xK : l0.length ≤ c0) (h : lF.f k l0 = some (r1, r2)) :
  Calls Try.prog 53 #[.slice A0 l0.length c0] w fun e w' => ∃ v0_ v1_ : Value, e = .returned (.agg #[v0_, v1_]) ∧ Kd.R Kd.string 9 w' w.heap.size (fun k_ => (w.heap.size ≤ k_)) v0_ r1 ∧ Kd.N k56 56 w' w.heap.size (F10 w v0_) v1_ r2 ∧ Below w.heap.size w w' := by
 have hu31 := Try.underlying31
 obtain ⟨rD, O0⟩ := mZ2 r5 xK
 clear r5 xK
 have HB := am (Below.refl w.heap.size w)
 unfold lF.f at h
 have H := h
 clear h
 obtain ⟨⟨kQ, eK⟩, A2, H⟩ := bd H
 dsimp only at H
 obtain ⟨⟨fI, fW, dD⟩, A3, H⟩ := bd H
 dsimp only at H
 obtain ⟨rfl, rfl⟩ := sZ2 H
 repeat clear H
 go_enter Try.func53, Try.ntmps53
 go_wp2_with (first | ((with_reducible refine gD 2 ?_); refine bX 2 #[.slice none 0 0, .slice none 0 0] 31 ?_; intro aJ hg w4 hbox hb; have a3 := am hbox; have gH := am (u0 : w.heap.size ≤ aJ); have iE := gH; replace HB := bS eI hb; clear hb hbox hg) | ((with_reducible refine gC 97 ?_); refine cE (some 4) Try.func97 (oK.calls _ _ l0 kQ eK w _ (dS) rD.1 O0.1 A2.out) ?_; rintro e w5 ⟨g104, rfl, hi, hb, hb2⟩; refine ⟨_, rfl, ?_⟩; replace HB := am hb; have l4 := am hi; have vI := am (aD.VS hi (dL (g := aJ) (o := .cells #[.slice none 0 0, .slice none 0 0] 31 (0, 0)) aQ hb2) (by decide)); have l8 := am (Ne.symm (aD.VS hi (dL (g := aJ) (o := .cells #[.slice none 0 0, .slice none 0 0] 31 (0, 0)) aQ hb2) (by decide))); replace a3 := am (dL (g := aJ) (o := .cells #[.slice none 0 0, .slice none 0 0] 31 (0, 0)) aQ hb2); clear hb hb2 hi) | ((with_reducible refine gC 98 ?_); refine cE (some 5) Try.func98 (qC.calls k g104 kQ eK fI fW dD w _ (Bg) (NS) A3.out) ?_; rintro e w6 ⟨BL, yI, rfl, hD, rM, hi, hb, hk⟩; refine ⟨_, rfl, ?_⟩; have kE := am (Kd.cO (Kd.jK (M := fun k_ => (w.heap.size ≤ k_)) (Kd.aM (ok' := fun k_ => True) hD (fun _ hk_ => trivial)) (aG NS) (fun k_ h_ => h_)) (aG NS)); have iL := am (Kd.l9 (Kd.aU (ok' := fun k_ => (w.heap.size ≤ k_) ∧ some k_ ≠ (BL : Value).ownBlock ∧ k_ ≠ aJ ∧ k_ ≠ g104) rM (fun k_ hk_ => ⟨(Nat.le_trans (aG NS) hk_.1), hk_.2, (fB aQ k_ hk_.1), (aD.fresh Bg k_ hk_.1)⟩)) (aG NS)); replace a3 := kb aQ hk l8; replace HB := am hb; replace l4 := am hi; clear hb hk hi hD rM; obtain ⟨Ao7, co7, eo7⟩ := Kd.bN kE.1; subst eo7; have Z8 := nZ1 l8 vI; have Z9 := cz2 a3; obtain ⟨iG, iD, Lu⟩ := Kd.iJ iL.1; subst Lu))
 refine cR aJ 31 #[.slice Ao7 fI.length co7, .slice iG fW.length iD] (qP a3) Try.underlying31 ?_
 exact ⟨_, _, eR, mR kE a3, by refine rN ?_; exact Kd.aU (fN (fN (Kd.aU iL.1 (fun k_ hk => (⟨hk, hk.2.2.1⟩ : _ ∧ k_ ≠ aJ))))) (fun _ hk => ⟨hk.1.1, hk.1.2.1⟩), NS⟩
def jF.l0 : Nat → List ByteArray → List ByteArray → Int → Option (Bool)
 | 0, _, _, _ => none
 | k + 1, b, c, a => if a < (b.length : Int) then (if 0 ≤ a then (if a < (c.length : Int) then (if (rdOf ByteArray.empty b a).toList = (rdOf ByteArray.empty c a).toList then (jF.l0 k b c (wrap64 (a + 1))) else (some false)) else (none)) else (none)) else (some true)
def jF.f (k : Nat) (l0 : List ByteArray) (l1 : List ByteArray) : Option (Bool) := if (l0.length : Int) = (l1.length : Int) then (jF.l0 k l0 l1 0) else (some false)
theorem jF.calls (k : Nat) (A0 : Option Addr) (c0 : Nat) (l0 : List ByteArray) (A1 : Option Addr) (c1 : Nat) (l1 : List ByteArray) (r : Bool) (w : World) (r5 : Kd.C Kd.string w A0 l0.length l0) (xK : l0.length ≤ c0) (BF : Kd.C Kd.string w A1 l1.length l1) (DK : l1.length ≤ c1) (h : jF.f k l0 l1 = some r) :
  Calls Try.prog 54 #[.slice A0 l0.length c0, .slice A1 l1.length c1] w fun e w' => e = .returned (.bool r) ∧ kP w w' := by
 obtain ⟨rD, O0⟩ := mZ2 r5 xK
 obtain ⟨tO, zK⟩ := mZ2 BF DK
 clear r5 xK BF DK
 unfold jF.f at h
 have H := h
 clear h
 by_cases c3 : (l0.length : Int) = (l1.length : Int)
 ·rw [if_pos c3] at H
  have BG : ((l0.length : Int) == (l1.length : Int)) = true := beq_iff_eq.mpr c3
  have UA : ((l0.length : Int) != (l1.length : Int)) = false := bne_eq_false_iff_eq.mpr c3
  have Ld : (l0.length == l1.length) = true := by first | simpa using c3 | (simp at c3 ⊢; omega)
  clear c3
  have H' := am H
  repeat clear H
  go_enter Try.func54, Try.ntmps54
  go_wp2
  repeat (go_quiet (fail); try go_wp2)
  go_loopg [5] k (fun kq v5 w' => ∃ (bV : Int), v5 = .int .i64 bV ∧ aA (jF.l0 kq l0 l1 bV = some r) ∧ aA (kq ≤ k) ∧ kP w w')
  case atStart => exact ⟨(0), dH, H', ⟨Nat.le_refl _⟩, gN⟩
  clear H'
  try clear c1
  try clear c3
  try clear BG
  try clear UA
  try clear Ld
  obtain ⟨bV, rfl, HA, HK1, ⟨m1, rfl⟩⟩ := hrel
  cases gk with
  | zero => exact absurd HA.out (by simp [jF.l0])
  | succ k1 =>
   have H := HA.out
   clear HA
   simp only [jF.l0] at H
   refine ic H ?_ ?_ <;> clear H <;> intro vT H
   ·obtain ⟨EO, H⟩ := cN H
    obtain ⟨PK, H⟩ := cN H
    refine iq H ?_ ?_ <;> clear H <;> intro c7 UB aMT H
    ·have H' := am H
     repeat clear H
     obtain ⟨jW, nV, kZ, wL, wN⟩ := aS rD b0 bV
     cases nV
     obtain ⟨oC, sG, o2, CV, CY⟩ := aS tO b0 bV
     cases sG
     go_wp2
     repeat (go_quiet (fail); try go_wp2)
     go_roundg k1
     case measure => have := HK1.out; omega
     case rel => exact ⟨(wrap64 (bV + 1)), dH, H', ⟨by have := HK1.out; omega⟩, gN⟩
    ·obtain rfl := Option.some.inj H
     repeat clear H
     obtain ⟨jW, nV, kZ, wL, wN⟩ := aS rD b0 bV
     cases nV
     obtain ⟨oC, sG, o2, CV, CY⟩ := aS tO b0 bV
     cases sG
     go_wp2
     repeat (go_quiet (fail); try go_wp2)
     go_ret
     exact ⟨by first | rfl | (simp; done) | (simp [*]; done), gN⟩
   ·obtain rfl := Option.some.inj H
    repeat clear H
    go_wp2
    repeat (go_quiet (fail); try go_wp2)
    go_ret
    exact ⟨by first | rfl | (simp; done) | (simp [*]; done), gN⟩
 rw [if_neg c3] at H
 have BG : ((l0.length : Int) == (l1.length : Int)) = false := beq_eq_false_iff_ne.mpr c3
 have UA : ((l0.length : Int) != (l1.length : Int)) = true := bne_iff_ne.mpr c3
 have Ld : (l0.length == l1.length) = false := by first | simpa using c3 | (simp at c3 ⊢; omega)
 obtain rfl := Option.some.inj H
 repeat clear H
 go_enter Try.func54, Try.ntmps54
 go_wp2
 repeat (go_quiet (fail); try go_wp2)
 go_ret
 exact ⟨by first | rfl | (simp; done) | (simp [*]; done), gN⟩
def lC.l0 : Nat → List ByteArray → ByteArray → Int → Option (Bool)
 | 0, _, _, _ => none
 | k + 1, b, c, a => if a < (b.length : Int) then (if 0 ≤ a then (if (rdOf ByteArray.empty b a).toList = c.toList then (some true) else (lC.l0 k b c (wrap64 (a + 1)))) else (none)) else (some false)
def lC.f (k : Nat) (l0 : List ByteArray) (a1 : ByteArray) : Option (Bool) := lC.l0 k l0 a1 0
theorem lC.calls (k : Nat) (A0 : Option Addr) (c0 : Nat) (l0 : List ByteArray) (a1 : ByteArray) (r : Bool) (w : World) (r5 : Kd.C Kd.string w A0 l0.length l0) (xK : l0.length ≤ c0) (h : lC.f k l0 a1 = some r) :
  Calls Try.prog 52 #[.slice A0 l0.length c0, .string a1] w fun e w' => e = .returned (.bool r) ∧ kP w w' := by
 obtain ⟨rD, O0⟩ := mZ2 r5 xK
 clear r5 xK
 unfold lC.f at h
 have H := h
 clear h
 have H' := am H
 repeat clear H
 go_enter Try.func52, Try.ntmps52
 go_wp2
 go_loopg [5] k (fun kq v5 w' => ∃ (bV : Int), v5 = .int .i64 bV ∧ aA (lC.l0 kq l0 a1 bV = some r) ∧ aA (kq ≤ k) ∧ kP w w')
 case atStart => exact ⟨(0), dH, H', ⟨Nat.le_refl _⟩, gN⟩
 clear H'
 obtain ⟨bV, rfl, HA, HK1, ⟨m1, rfl⟩⟩ := hrel
 cases gk with
 | zero => exact absurd HA.out (by simp [lC.l0])
 | succ k1 =>
  have H := HA.out
  clear HA
  simp only [lC.l0] at H
  refine ic H ?_ ?_ <;> clear H <;> intro BG H
  ·obtain ⟨vT, H⟩ := cN H
   refine iq H ?_ ?_ <;> clear H <;> intro c5 EO a6I H
   ·obtain rfl := Option.some.inj H
    repeat clear H
    obtain ⟨jW, nV, kZ, wL, wN⟩ := aS rD b0 bV
    cases nV
    go_wp2
    go_ret
    exact ⟨by first | rfl | (simp; done) | (simp [*]; done), gN⟩
   ·have H' := am H
    repeat clear H
    obtain ⟨jW, nV, kZ, wL, wN⟩ := aS rD b0 bV
    cases nV
    go_wp2
    go_roundg k1
    case measure => have := HK1.out; omega
    case rel => exact ⟨(wrap64 (bV + 1)), dH, H', ⟨by have := HK1.out; omega⟩, gN⟩
  ·obtain rfl := Option.some.inj H
   repeat clear H
   go_wp2
   go_ret
   exact ⟨by first | rfl | (simp; done) | (simp [*]; done), gN⟩
mutual
def eB.l0 : Nat → List ByteArray → Int → List ByteArray → List (S56) → Option (Bool)
 | 0, _, _, _, _ => none
 | k + 1, c, a, d, b => if a < (b.length : Int) then (if 0 ≤ a then ((lC.f k c ((aC b a).f0)).bind fun i => (if i = true then (eB.l0 k c (wrap64 (a + 1)) d b) else ((some (([] : List ByteArray) : List ByteArray)).bind fun e => (if e.length + c.length < 8796093022208 then ((some (e ++ c : List ByteArray)).bind fun g => ((some (([(aC b a).f0] : List ByteArray) : List ByteArray)).bind fun h => (if g.length + h.length < 8796093022208 then ((eB.f k d b (g ++ h)).bind fun j => (if j = true then (some true) else (eB.l0 k c (wrap64 (a + 1)) d b))) else (none)))) else (none))))) else (none)) else (some false)
def eB.f : Nat → List ByteArray → List (S56) → List ByteArray → Option (Bool)
 | 0, _, _, _ => none
 | k + 1, aY, aI, l1 => if (l1.length : Int) = (aI.length : Int) then ((bQ.f k aY aI l1).bind fun a => (some a)) else (eB.l0 k l1 0 aY aI)
end
def eB.T6 : Bool × List (List Nat × List Nat) := (true, [([], []), ([], []), ([1], [1]), ([], []), ([2, 3], [2, 3]), ([4], [4]), ([5], [5]), ([0, 6], [0, 6]), ([7], [7]), ([8, 7], [8]), ([9], [9]), ([9], [9]), ([9], [9]), ([11, 12, 9, 9], [9, 11, 12]), ([9], [9]), ([14, 9], [9, 14]), ([9], [9]), ([15, 16, 9], [9, 15, 16]), ([17, 9], [9, 17]), ([18, 9], [9, 18]), ([19, 9], [9, 19]), ([13, 20, 13, 9], [9, 13, 20]), ([10, 21, 21, 9], [9, 10, 21]), ([9, 22], [9, 22])])
def eB.B6 : List Nat := [0, 0, 2, 0, 14, 30, 62, 127, 255, 511, 1023, 1023, 1023, 7167, 1023, 17407, 1023, 115711, 246783, 508927, 1033215, 2096127, 4194303, 8388607]
theorem eB.tab6 : rtab .any (opsOf Try.f55 6) = eB.T6 := by kernel_rfl
theorem eB.wX : kM eB.T6.2 eB.B6 = true := by kernel_rfl
theorem eB.calls (k : Nat) : ∀ (eL : Option Addr) (eO : Nat) (aY : List ByteArray) (fJ : Option Addr) (eJ : Nat) (aI : List (S56)) (A1 : Option Addr) (c1 : Nat) (l1 : List ByteArray) (r : Bool) (w : World) (iQ : Kd.C Kd.string w eL aY.length aY) (iO : aY.length ≤ eO) (iH : Kd.C k56 w fJ aI.length aI) (iP : aI.length ≤ eJ) (BF : Kd.C Kd.string w A1 l1.length l1) (DK : l1.length ≤ c1) (h : eB.f k aY aI l1 = some r),
  Calls Try.prog 55 #[.agg #[.slice eL aY.length eO, .slice fJ aI.length eJ], .slice A1 l1.length c1] w fun e w' => e = .returned (.bool r) ∧ Below w.heap.size w w' := by
 induction k using Nat.strongRecOn with
 | _ k ih =>
 intro eL eO aY fJ eJ aI A1 c1 l1 r w iQ iO iH iP BF DK h
 cases k with
 | zero => exact absurd h (by simp [eB.f])
 | succ k =>
 simp only [eB.f] at h
 have hu31 := Try.underlying31
 obtain ⟨eQ, eP⟩ := mZ2 iQ iO
 obtain ⟨dO, fP⟩ := mZ2 iH iP
 obtain ⟨tO, zK⟩ := mZ2 BF DK
 clear iQ iO iH iP BF DK
 have HB := am (Below.refl w.heap.size w)
 have H := h
 clear h
 by_cases c3 : (l1.length : Int) = (aI.length : Int)
 rw [if_pos c3] at H
 have BG : ((l1.length : Int) == (aI.length : Int)) = true := beq_iff_eq.mpr c3
 have UA : ((l1.length : Int) != (aI.length : Int)) = false := bne_eq_false_iff_eq.mpr c3
 have Ld : (l1.length == aI.length) = true := by first | simpa using c3 | (simp at c3 ⊢; omega)
 clear c3
 obtain ⟨kQ, A4, H⟩ := bd H
 obtain rfl := Option.some.inj H
 repeat clear H
 have Va := trivial
 rotate_left
 rw [if_neg c3] at H
 have BG : ((l1.length : Int) == (aI.length : Int)) = false := beq_eq_false_iff_ne.mpr c3
 have UA : ((l1.length : Int) != (aI.length : Int)) = true := bne_iff_ne.mpr c3
 have Ld : (l1.length == aI.length) = false := by first | simpa using c3 | (simp at c3 ⊢; omega)
 have H' := am H
 repeat clear H
 rotate_left
 all_goals
  go_enter Try.func55, Try.ntmps55
  go_wp2_with (first | ((with_reducible refine gD 2 ?_); (try (refine nE (by rfl) ?_; dsimp only)); refine bX 2 #[.slice eL aY.length eO, .slice fJ aI.length eJ] 31 ?_; intro aJ hg aK3 hbox hb; have a3 := am hbox; have gH := am (u0 : w.heap.size ≤ aJ); have iE := gH; replace HB := bS eI hb; clear hb hbox hg; have qh := cz2 a3) | ((with_reducible refine gC 33 ?_); revert Va; intro Va; refine cQ (some 14) Try.func33 (bQ.calls k _ _ aY _ _ aI _ _ l1 kQ _ (pB eQ) eP.1 (pB dO) fP.1 (pB tO) zK.1 A4.out) ?_; rintro aK4 hb; replace a3 := bB aQ hb; replace HB := bS dS hb; clear hb))
 ·go_ret
  exact ⟨eR, dS⟩
 go_loopg [5] k (fun kq v5 w' => ∃ (bV : Int), v5 = .int .i64 bV ∧ aA (eB.l0 kq l1 bV aY aI = some r) ∧ aA (kq ≤ k) ∧ aA (w'.heap[aJ]? = some (.cells #[(.slice eL aY.length eO), (.slice fJ aI.length eJ)] 31 (0, 0))) ∧ aA (Below w.heap.size w w'))
 case atStart => exact ⟨(0), dH, H', ⟨Nat.le_refl _⟩, ⟨rB a3.1⟩, ⟨dS⟩⟩
 clear H'
 try clear c1
 try clear c3
 try clear BG
 try clear UA
 try clear Ld
 try clear qh
 obtain ⟨bV, rfl, HA, HK1, a3, HB⟩ := hrel
 cases gk with
 | zero => exact absurd HA.out (by simp [eB.l0])
 | succ k1 =>
  have H := HA.out
  clear HA
  simp only [eB.l0] at H
  refine ic H ?_ ?_ <;> clear H <;> intro IC H
  ·obtain ⟨ID, H⟩ := cN H
   obtain ⟨dI, A12, H⟩ := bd H
   refine tC H ?_ ?_ <;> clear H <;> intro ZW H <;> subst ZW
   ·have H' := am H
    repeat clear H
    have Z14 := cz2 a3
    try go_wp2
    replace a3 := BD a3
    replace HB := am (aV HB.1)
    obtain ⟨e4, r9, rK, rA, rL, oG, hU, kX, kY, j5, BT, BU, xI, E9, uS, yW, uK, uL⟩ := wW dO HB bV
    cases oG
    refine sT [] 24 (uB2 a3 (uBx HB hU (uBx HB kX (uAx HB kY)))) (fun hHeld => ?_)
    refine dZ eB.tab6 eB.wX (fun HT_ HW_ => ?_)
    generalize wr.drew = wo at a3 HB xI uS j5 BT BU hHeld ⊢
    refine pU3 0 1 3 ?_
    refine tK5 2 (some 24) ?_
    refine pU2 4 5 ?_
    refine tK5 6 (some 28) ?_
    refine oN 7 (some 29) fun K hK => ?_
    refine gQ Try.func52 (lC.calls k1 _ _ l1 ((aC aI bV).f0) true _ (pB tO) zK.1 A12.out) ?_
    rintro w' ⟨nd, rfl⟩
    refine nK hK (uB2 a3 (uBx HB hU (uBx HB kX (uAx HB kY)))).1 fun hHeld => ?_
    clear hK K
    refine pU2 8 9 ?_
    refine pV8 10 11 12 13 14 15 16 17 ?_
    refine pV5 18 19 20 21 22 ?_
    refine pU1 23 ?_
    refine dN ?_
    try go_wp2
    go_roundg k1
    case measure => have := HK1.out; omega
    case rel => exact ⟨(wrap64 (bV + 1)), dH, H', ⟨by have := HK1.out; omega⟩, ⟨rB a3.1⟩, ⟨dS⟩⟩
   ·obtain ⟨YI, hy105⟩ : ∃ y_ : List ByteArray, y_ = (([] : List ByteArray)) := ⟨_, rfl⟩
    replace H : (if YI.length + l1.length < 8796093022208 then ((some (YI ++ l1 : List ByteArray)).bind fun R6 => ((some (([(aC aI bV).f0] : List ByteArray) : List ByteArray)).bind fun sS => (if R6.length + sS.length < 8796093022208 then ((eB.f k1 aY aI (R6 ++ sS)).bind fun wU => (if wU = true then (some true) else (eB.l0 k1 l1 (wrap64 (bV + 1)) aY aI))) else (none)))) else (none)) = some r := by first | (rw [hy105]; with_reducible exact H) | (have H2_ := (Option.bind_some _ _).symm.trans H; rw [hy105]; with_reducible exact H2_) | (have H2_ := (Option.bind_some _ _).symm.trans H; with_reducible exact H2_) | with_reducible exact H | (rw [hy105]; exact H) | exact H
    have Dh := am hy105
    clear hy105
    obtain ⟨RG, H⟩ := cL H
    obtain ⟨R6, RL, H⟩ := bY H
    obtain ⟨sS, yP, H⟩ := bY H
    obtain ⟨Cx, H⟩ := cL H
    obtain ⟨JJ, I6⟩ := yv (R6 ++ sS); first | replace H := bW I6 H | rw [← I6.1] at H
    obtain ⟨wU, A18, H⟩ := bd H
    refine tC H ?_ ?_ <;> clear H <;> intro jw H <;> subst jw
    ·obtain rfl := Option.some.inj H
     repeat clear H
     have Z20 := cz2 a3
     try go_wp2
     replace a3 := BD a3
     replace HB := am (aV HB.1)
     obtain ⟨e4, r9, rK, rA, rL, oG, hU, kX, kY, j5, BT, BU, xI, E9, uS, yW, uK, uL⟩ := wW dO HB bV
     cases oG
     obtain ⟨jL, YP, ZR, YQ, ZS, UM, jP, jQ, jR, wI, zC, zD, yZ, JN, EF, TP, Ns, Oa⟩ := wW dO HB bV
     obtain rfl : e4 = jL := (by injection UM)
     obtain ⟨ea_, ec_⟩ := eZ2 BT zC
     subst ea_
     subst ec_
     obtain ⟨ea_, ec_⟩ := eZ2 BU zD
     subst ea_
     subst ec_
     refine sT [] 24 (uB2 a3 (uBx HB hU (uBx HB kX (uBx HB kY (uBx HB jP (uBx HB jQ (uAx HB jR))))))) (fun hHeld => ?_)
     refine dZ eB.tab6 eB.wX (fun HT_ HW_ => ?_)
     generalize wr.drew = ll at a3 HB xI uS yZ EF j5 BT BU wI zC zD hHeld ⊢
     refine pU3 0 1 3 ?_
     refine tK8 2 (some 24) ?_
     refine pU2 4 5 ?_
     refine tK8 6 (some 28) ?_
     refine oN 7 (some 29) fun K hK => ?_
     refine gQ Try.func52 (lC.calls k1 _ _ l1 ((aC aI bV).f0) false _ (pB tO) zK.1 A12.out) ?_
     rintro w' ⟨nd, rfl⟩
     refine nK hK (uB2 a3 (uBx HB hU (uBx HB kX (uBx HB kY (uBx HB jP (uBx HB jQ (uAx HB jR))))))).1 fun hHeld => ?_
     clear hK K
     refine pU5 8 9 12 14 16 ?_
     refine tK8 10 (some 32) ?_
     refine tK8 15 (some 37) ?_
     refine pU2 17 18 ?_
     refine tK8 19 (some 41) ?_
     refine SK (σ := Value × Value × Value) 3 (bz 24 2097151) (fun s_ => [(33, s_.1), (35, s_.2.1), (42, s_.2.2)]) (fun s_ w' => (w'.cell? ⟨aJ, 0, none⟩ = some (.slice eL aY.length eO) ∧ w'.cell? ⟨aJ, 1, none⟩ = some (.slice (some e4) aI.length eJ) ∧ w'.cell? (e4.add ((bV).toNat * 3)) = some (.string ((aC aI bV).f0)) ∧ w'.cell? ⟨(e4.add ((bV).toNat * 3)).block, (e4.add ((bV).toNat * 3)).off + 1, none⟩ = some (.slice r9 ((aC aI bV).f1).length rK) ∧ w'.cell? ⟨(e4.add ((bV).toNat * 3)).block, (e4.add ((bV).toNat * 3)).off + 2, none⟩ = some (.slice rA ((aC aI bV).f2).length rL) ∧ w'.cell? (e4.add ((bV).toNat * 3)) = some (.string ((aC aI bV).f0)) ∧ w'.cell? ⟨(e4.add ((bV).toNat * 3)).block, (e4.add ((bV).toNat * 3)).off + 1, none⟩ = some (.slice r9 ((aC aI bV).f1).length rK) ∧ w'.cell? ⟨(e4.add ((bV).toNat * 3)).block, (e4.add ((bV).toNat * 3)).off + 2, none⟩ = some (.slice rA ((aC aI bV).f2).length rL)) ∧ (Kd.R Kd.string 9 w' w.heap.size (fun k_ => some k_ ≠ (s_.2.2 : Value).ownBlock) s_.2.1 R6) ∧ (Kd.R Kd.string 9 w' w.heap.size (fun k_ => some k_ ≠ (s_.2.1 : Value).ownBlock) s_.2.2 sS) ∧ (w'.heap[aJ]? = some (.cells #[.slice eL aY.length eO, .slice (some e4) aI.length eJ] 31 (0, 0))) ∧ (Below w.heap.size w w')) ?_ ?_
     rotate_left
     ·intro hCont
      refine two_ (i := 11) (j := 20) (Ni := some 33) (Nj := some 42) (bz 24 1040383) (bz 24 2086911) rfl rfl rfl rfl (BC HT_.out (by kernel_rfl)) (by decide) (by decide) (fun K hK => ?_) (fun K hK => ?_)
      ·skip
       refine lT 9 33 Dh ?_
       intro BL Tx Mn hb
       have kE := am (Kd.cO Mn (aG dS))
       replace a3 := bB aQ hb
       replace HB := bS dS hb
       clear hb Mn
       refine nK hK (uB2 a3 (uBx HB hU (uBx HB kX (uBx HB kY (uBx HB jP (uBx HB jQ (uAx HB jR))))))).1 fun hHeld => ?_
       clear hK K
       refine two_ (i := 13) (j := 20) (Ni := some 35) (Nj := some 42) (bz 24 1048575) (bz 24 2088959) rfl rfl rfl rfl (BC HT_.out (by kernel_rfl)) (by decide) (by decide) (fun K hK => ?_) (fun K hK => ?_)
       ·skip
        refine Kd.dV Kd.string (w0 := w) w.heap.size (by rfl) (.tmp 33) (.tmp 34) 23 9 (.string ⟨#[]⟩) 16 rfl Try.underlying23 jT rfl (by decide) (by omega) BL YI l1 _ _ _ (fun _ => True) (fun _ => False) rfl rfl ?aO ?aR (fun _ _ h => h) (fun _ h => h.elim) ?aF ?aB ?aS ?aL ?_
        (case aR => repeat (first | exact (Kd.bK tO.1 HB.1) | (with_reducible refine Kd.gU ?_ _) | (with_reducible refine Kd.gV ?_ _) | (with_reducible refine Kd.iW ?_)))
        (case aB => exact dS)
        (case aF => exact (fun _ _ => trivial))
        (case aO => exact NK)
        (case aS => exact (aG dS))
        (case aL => have := RG.out; omega)
        intro yI ws ho hb hg hat
        rw [← RL.out] at ho
        replace a3 := gkR aQ hg kE a3
        replace HB := am hb
        have iL := am ho
        clear kE
        clear ho hb hg hat
        refine nK hK (uB2 a3 (uBx HB hU (uBx HB kX (uBx HB kY (uBx HB jP (uBx HB jQ (uAx HB jR))))))).1 fun hHeld => ?_
        clear hK K
        refine oN 20 (some 42) fun K hK => ?_
        refine lT 9 42 yP ?_
        intro rQ w25 ew hb
        have fX := am (Kd.cO (Kd.eF ew (Kd.R_lt yU)) (aG dS))
        replace iL := am (Kd.dJ yU (Kd.bL ew) hb)
        replace a3 := bB aQ hb
        replace HB := bS dS hb
        clear hb ew
        refine nK hK (uB2 a3 (uBx HB hU (uBx HB kX (uBx HB kY (uBx HB jP (uBx HB jQ (uAx HB jR))))))).1 fun hHeld => ?_
        clear hK K
        exact rW xY (hCont (BL, yI, rQ) _ ⟨hHeld, (by refine rR ?_; exact Kd.aM iL.1 (fun _ hk => hk.2)), Hf, aQ, dS⟩)
       ·skip
        refine lT 9 42 yP ?_
        intro rQ ws At hb
        have fX := am (Kd.cO (Kd.eF At (Kd.R_lt NK)) (aG dS))
        replace kE := am (Kd.dJ NK (Kd.bL At) hb)
        replace a3 := bB aQ hb
        replace HB := bS dS hb
        clear hb At
        refine nK hK (uB2 a3 (uBx HB hU (uBx HB kX (uBx HB kY (uBx HB jP (uBx HB jQ (uAx HB jR))))))).1 fun hHeld => ?_
        clear hK K
        refine oN 13 (some 35) fun K hK => ?_
        refine Kd.dV Kd.string (w0 := w) w.heap.size (by rfl) (.tmp 33) (.tmp 34) 23 9 (.string ⟨#[]⟩) 16 rfl Try.underlying23 jT rfl (by decide) (by omega) BL YI l1 _ _ _ (fun k_ => some k_ ≠ (rQ : Value).ownBlock) (fun _ => False) rfl rfl ?aO ?aR (fun _ _ h => h) (fun _ h => h.elim) ?aF ?aB ?aS ?aL ?_
        (case aR => repeat (first | exact (Kd.bK tO.1 HB.1) | (with_reducible refine Kd.gU ?_ _) | (with_reducible refine Kd.gV ?_ _) | (with_reducible refine Kd.iW ?_)))
        (case aB => exact dS)
        (case aF => exact (fun k_ hk => Kd.fresh' (Kd.R_lt sP) k_ hk))
        (case aO => exact (by refine rR ?_; exact Kd.aM kE.1 (fun _ hk => hk.2)))
        (case aS => exact (aG dS))
        (case aL => have := RG.out; omega)
        intro yI lm ho hb hg hat
        rw [← RL.out] at ho
        replace a3 := gkR aQ hg kE a3
        replace fX := am (Kd.gW (ok := (fun _ => True)) sP hg hat)
        replace HB := am hb
        have iL := am ho
        clear kE
        clear ho hb hg hat
        refine nK hK (uB2 a3 (uBx HB hU (uBx HB kX (uBx HB kY (uBx HB jP (uBx HB jQ (uAx HB jR))))))).1 fun hHeld => ?_
        clear hK K
        exact rW xY (hCont (BL, yI, rQ) _ ⟨hHeld, yU, Hf, aQ, dS⟩)
      ·skip
       refine lT 9 42 yP ?_
       intro rQ Tx Mn hb
       have fX := am (Kd.cO Mn (aG dS))
       replace a3 := bB aQ hb
       replace HB := bS dS hb
       clear hb Mn
       refine nK hK (uB2 a3 (uBx HB hU (uBx HB kX (uBx HB kY (uBx HB jP (uBx HB jQ (uAx HB jR))))))).1 fun hHeld => ?_
       clear hK K
       refine oN 11 (some 33) fun K hK => ?_
       refine lT 9 33 Dh ?_
       intro BL ws At hb
       have kE := am (Kd.cO (Kd.eF At (Kd.R_lt sP)) (aG dS))
       replace fX := am (Kd.dJ sP (Kd.bL At) hb)
       replace a3 := bB aQ hb
       replace HB := bS dS hb
       clear hb At
       refine nK hK (uB2 a3 (uBx HB hU (uBx HB kX (uBx HB kY (uBx HB jP (uBx HB jQ (uAx HB jR))))))).1 fun hHeld => ?_
       clear hK K
       refine oN 13 (some 35) fun K hK => ?_
       refine Kd.dV Kd.string (w0 := w) w.heap.size (by rfl) (.tmp 33) (.tmp 34) 23 9 (.string ⟨#[]⟩) 16 rfl Try.underlying23 jT rfl (by decide) (by omega) BL YI l1 _ _ _ (fun k_ => some k_ ≠ (rQ : Value).ownBlock) (fun _ => False) rfl rfl ?aO ?aR (fun _ _ h => h) (fun _ h => h.elim) ?aF ?aB ?aS ?aL ?_
       (case aR => repeat (first | exact (Kd.bK tO.1 HB.1) | (with_reducible refine Kd.gU ?_ _) | (with_reducible refine Kd.gV ?_ _) | (with_reducible refine Kd.iW ?_)))
       (case aB => exact dS)
       (case aF => exact (fun k_ hk => Kd.fresh' (Kd.R_lt sP) k_ hk))
       (case aO => exact (by refine rR ?_; exact Kd.aM kE.1 (fun _ hk => hk.2)))
       (case aS => exact (aG dS))
       (case aL => have := RG.out; omega)
       intro yI lm ho hb hg hat
       rw [← RL.out] at ho
       replace a3 := gkR aQ hg kE a3
       replace fX := am (Kd.gW (ok := (fun _ => True)) sP hg hat)
       replace HB := am hb
       have iL := am ho
       clear kE
       clear ho hb hg hat
       refine nK hK (uB2 a3 (uBx HB hU (uBx HB kX (uBx HB kY (uBx HB jP (uBx HB jQ (uAx HB jR))))))).1 fun hHeld => ?_
       clear hK K
       exact rW xY (hCont (BL, yI, rQ) _ ⟨hHeld, yU, Hf, aQ, dS⟩)
     rintro ⟨BL, yI, rQ⟩ YM ⟨hS_, h0_, h1_, h2_, h3_⟩
     have iL : aA (Kd.R Kd.string 9 YM w.heap.size (fun k_ => some k_ ≠ (rQ : Value).ownBlock) yI R6) := ⟨h0_⟩
     have fX : aA (Kd.R Kd.string 9 YM w.heap.size (fun k_ => some k_ ≠ (yI : Value).ownBlock) rQ sS) := ⟨h1_⟩
     replace a3 : aA (YM.heap[aJ]? = some (.cells #[.slice eL aY.length eO, .slice (some e4) aI.length eJ] 31 (0, 0))) := ⟨h2_⟩
     replace HB : aA (Below w.heap.size w YM) := ⟨h3_⟩
     clear h0_ h1_ h2_ h3_
     have hHeld : YM.cell? ⟨aJ, 0, none⟩ = some (.slice eL aY.length eO) ∧ YM.cell? ⟨aJ, 1, none⟩ = some (.slice (some e4) aI.length eJ) ∧ YM.cell? (e4.add ((bV).toNat * 3)) = some (.string ((aC aI bV).f0)) ∧ YM.cell? ⟨(e4.add ((bV).toNat * 3)).block, (e4.add ((bV).toNat * 3)).off + 1, none⟩ = some (.slice r9 ((aC aI bV).f1).length rK) ∧ YM.cell? ⟨(e4.add ((bV).toNat * 3)).block, (e4.add ((bV).toNat * 3)).off + 2, none⟩ = some (.slice rA ((aC aI bV).f2).length rL) ∧ YM.cell? (e4.add ((bV).toNat * 3)) = some (.string ((aC aI bV).f0)) ∧ YM.cell? ⟨(e4.add ((bV).toNat * 3)).block, (e4.add ((bV).toNat * 3)).off + 1, none⟩ = some (.slice r9 ((aC aI bV).f1).length rK) ∧ YM.cell? ⟨(e4.add ((bV).toNat * 3)).block, (e4.add ((bV).toNat * 3)).off + 2, none⟩ = some (.slice rA ((aC aI bV).f2).length rL) := hS_
     obtain ⟨a4I, a6O, sm⟩ := Kd.bN fX.1
     (first | subst sm | (obtain ⟨f4_, f5_⟩ := sj sm; subst f4_; subst f5_))
     refine rW (a' := ?_) ?_ ?_
     rotate_left
     ·simp only [CX, Act.put, List.setIfInBounds_toArray, List.set_cons_zero, List.set_cons_succ]
      rfl
     refine oN 21 (some 43) fun K hK => ?_
     refine Kd.dV Kd.string (w0 := w) w.heap.size (by rfl) (.tmp 35) (.tmp 42) 23 9 (.string ⟨#[]⟩) 16 rfl Try.underlying23 jT rfl (by decide) (by omega) yI R6 sS _ _ _ (fun k_ => some k_ ≠ (.slice a4I sS.length a6O : Value).ownBlock) (fun _ => False) rfl rfl ?aO ?aR (fun _ _ h => h) (fun _ h => h.elim) ?aF ?aB ?aS ?aL ?_
     (case aR => repeat (first | exact (Kd.aT fX.1).2.2 | (with_reducible refine Kd.gU ?_ _) | (with_reducible refine Kd.gV ?_ _) | (with_reducible refine Kd.iW ?_)))
     (case aB => exact dS)
     (case aF => exact (fun k_ hk => Kd.fresh' (Kd.R_lt sP) k_ hk))
     (case aO => exact yU)
     (case aS => exact (aG dS))
     (case aL => have := Cx.out; omega)
     intro WM w28 ho hb hg hat
     rw [← I6.out] at ho
     replace a3 := gkR aQ hg iL a3
     replace fX := am (Kd.gW (ok := (fun _ => True)) (by refine rR ?_; exact Kd.aM fX.1 (fun _ hk => ⟨trivial, hk⟩)) hg hat)
     replace HB := am hb
     have pQ := am ho
     clear iL
     clear ho hb hg hat
     obtain ⟨aL2, aMZ, sn⟩ := Kd.bN pQ.1
     (first | subst sn | (obtain ⟨f4_, f5_⟩ := sj sn; subst f4_; subst f5_))
     refine nK hK (uB2 a3 (uBx HB hU (uBx HB kX (uBx HB kY (uBx HB jP (uBx HB jQ (uAx HB jR))))))).1 fun hHeld => ?_
     clear hK K
     refine oN 22 (some 44) fun K hK => ?_
     refine gQ Try.func55 (ih k1 (by have := HK1.out; omega) _ _ aY _ _ aI _ _ JJ true _ (pB eQ) eP.1 (pB dO) fP.1 (pC (Kd.aT pQ.1).2.2) ((Kd.aT pQ.1).2.1) A18.out) ?_
     rintro w31 hb
     replace fX := RB sP hb
     replace pQ := am (Kd.jY (rR pQ.1) hb)
     replace a3 := bB aQ hb
     replace HB := bS dS hb
     clear hb
     refine nK hK (uB2 a3 (uBx HB hU (uBx HB kX (uBx HB kY (uBx HB jP (uBx HB jQ (uAx HB jR))))))).1 fun hHeld => ?_
     clear hK K
     refine pU1 23 ?_
     refine dN ?_
     try go_wp2
     go_ret
     exact ⟨eR, dS⟩
    ·have H' := am H
     repeat clear H
     have yi := cz2 a3
     try go_wp2
     replace a3 := BD a3
     replace HB := am (aV HB.1)
     obtain ⟨e4, r9, rK, rA, rL, oG, hU, kX, kY, j5, BT, BU, xI, E9, uS, yW, uK, uL⟩ := wW dO HB bV
     cases oG
     obtain ⟨jL, YP, ZR, YQ, ZS, UM, jP, jQ, jR, wI, zC, zD, yZ, JN, EF, TP, Ns, Oa⟩ := wW dO HB bV
     obtain rfl : e4 = jL := (by injection UM)
     obtain ⟨ea_, ec_⟩ := eZ2 BT zC
     subst ea_
     subst ec_
     obtain ⟨ea_, ec_⟩ := eZ2 BU zD
     subst ea_
     subst ec_
     refine sT [] 24 (uB2 a3 (uBx HB hU (uBx HB kX (uBx HB kY (uBx HB jP (uBx HB jQ (uAx HB jR))))))) (fun hHeld => ?_)
     refine dZ eB.tab6 eB.wX (fun HT_ HW_ => ?_)
     generalize wr.drew = Pv at a3 HB xI uS yZ EF j5 BT BU wI zC zD hHeld ⊢
     refine pU3 0 1 3 ?_
     refine tK8 2 (some 24) ?_
     refine pU2 4 5 ?_
     refine tK8 6 (some 28) ?_
     refine oN 7 (some 29) fun K hK => ?_
     refine gQ Try.func52 (lC.calls k1 _ _ l1 ((aC aI bV).f0) false _ (pB tO) zK.1 A12.out) ?_
     rintro w' ⟨nd, rfl⟩
     refine nK hK (uB2 a3 (uBx HB hU (uBx HB kX (uBx HB kY (uBx HB jP (uBx HB jQ (uAx HB jR))))))).1 fun hHeld => ?_
     clear hK K
     refine pU5 8 9 12 14 16 ?_
     refine tK8 10 (some 32) ?_
     refine tK8 15 (some 37) ?_
     refine pU2 17 18 ?_
     refine tK8 19 (some 41) ?_
     refine SK (σ := Value × Value × Value) 3 (bz 24 2097151) (fun s_ => [(33, s_.1), (35, s_.2.1), (42, s_.2.2)]) (fun s_ w' => (w'.cell? ⟨aJ, 0, none⟩ = some (.slice eL aY.length eO) ∧ w'.cell? ⟨aJ, 1, none⟩ = some (.slice (some e4) aI.length eJ) ∧ w'.cell? (e4.add ((bV).toNat * 3)) = some (.string ((aC aI bV).f0)) ∧ w'.cell? ⟨(e4.add ((bV).toNat * 3)).block, (e4.add ((bV).toNat * 3)).off + 1, none⟩ = some (.slice r9 ((aC aI bV).f1).length rK) ∧ w'.cell? ⟨(e4.add ((bV).toNat * 3)).block, (e4.add ((bV).toNat * 3)).off + 2, none⟩ = some (.slice rA ((aC aI bV).f2).length rL) ∧ w'.cell? (e4.add ((bV).toNat * 3)) = some (.string ((aC aI bV).f0)) ∧ w'.cell? ⟨(e4.add ((bV).toNat * 3)).block, (e4.add ((bV).toNat * 3)).off + 1, none⟩ = some (.slice r9 ((aC aI bV).f1).length rK) ∧ w'.cell? ⟨(e4.add ((bV).toNat * 3)).block, (e4.add ((bV).toNat * 3)).off + 2, none⟩ = some (.slice rA ((aC aI bV).f2).length rL)) ∧ (Kd.R Kd.string 9 w' w.heap.size (fun k_ => some k_ ≠ (s_.2.2 : Value).ownBlock) s_.2.1 R6) ∧ (Kd.R Kd.string 9 w' w.heap.size (fun k_ => some k_ ≠ (s_.2.1 : Value).ownBlock) s_.2.2 sS) ∧ (w'.heap[aJ]? = some (.cells #[.slice eL aY.length eO, .slice (some e4) aI.length eJ] 31 (0, 0))) ∧ (Below w.heap.size w w')) ?_ ?_
     rotate_left
     ·intro hCont
      refine two_ (i := 11) (j := 20) (Ni := some 33) (Nj := some 42) (bz 24 1040383) (bz 24 2086911) rfl rfl rfl rfl (BC HT_.out (by kernel_rfl)) (by decide) (by decide) (fun K hK => ?_) (fun K hK => ?_)
      ·skip
       refine lT 9 33 Dh ?_
       intro BL ln Mo hb
       have kE := am (Kd.cO Mo (aG dS))
       replace a3 := bB aQ hb
       replace HB := bS dS hb
       clear hb Mo
       refine nK hK (uB2 a3 (uBx HB hU (uBx HB kX (uBx HB kY (uBx HB jP (uBx HB jQ (uAx HB jR))))))).1 fun hHeld => ?_
       clear hK K
       refine two_ (i := 13) (j := 20) (Ni := some 35) (Nj := some 42) (bz 24 1048575) (bz 24 2088959) rfl rfl rfl rfl (BC HT_.out (by kernel_rfl)) (by decide) (by decide) (fun K hK => ?_) (fun K hK => ?_)
       ·skip
        refine Kd.dV Kd.string (w0 := w) w.heap.size (by rfl) (.tmp 33) (.tmp 34) 23 9 (.string ⟨#[]⟩) 16 rfl Try.underlying23 jT rfl (by decide) (by omega) BL YI l1 _ _ _ (fun _ => True) (fun _ => False) rfl rfl ?aO ?aR (fun _ _ h => h) (fun _ h => h.elim) ?aF ?aB ?aS ?aL ?_
        (case aR => repeat (first | exact (Kd.bK tO.1 HB.1) | (with_reducible refine Kd.gU ?_ _) | (with_reducible refine Kd.gV ?_ _) | (with_reducible refine Kd.iW ?_)))
        (case aB => exact dS)
        (case aF => exact (fun _ _ => trivial))
        (case aO => exact NK)
        (case aS => exact (aG dS))
        (case aL => have := RG.out; omega)
        intro yI Ou ho hb hg hat
        rw [← RL.out] at ho
        replace a3 := gkR aQ hg kE a3
        replace HB := am hb
        have iL := am ho
        clear kE
        clear ho hb hg hat
        refine nK hK (uB2 a3 (uBx HB hU (uBx HB kX (uBx HB kY (uBx HB jP (uBx HB jQ (uAx HB jR))))))).1 fun hHeld => ?_
        clear hK K
        refine oN 20 (some 42) fun K hK => ?_
        refine lT 9 42 yP ?_
        intro rQ Ov ex hb
        have fX := am (Kd.cO (Kd.eF ex (Kd.R_lt yU)) (aG dS))
        replace iL := am (Kd.dJ yU (Kd.bL ex) hb)
        replace a3 := bB aQ hb
        replace HB := bS dS hb
        clear hb ex
        refine nK hK (uB2 a3 (uBx HB hU (uBx HB kX (uBx HB kY (uBx HB jP (uBx HB jQ (uAx HB jR))))))).1 fun hHeld => ?_
        clear hK K
        exact rW xY (hCont (BL, yI, rQ) _ ⟨hHeld, (by refine rR ?_; exact Kd.aM iL.1 (fun _ hk => hk.2)), Hf, aQ, dS⟩)
       ·skip
        refine lT 9 42 yP ?_
        intro rQ Ou M5 hb
        have fX := am (Kd.cO (Kd.eF M5 (Kd.R_lt NK)) (aG dS))
        replace kE := am (Kd.dJ NK (Kd.bL M5) hb)
        replace a3 := bB aQ hb
        replace HB := bS dS hb
        clear hb M5
        refine nK hK (uB2 a3 (uBx HB hU (uBx HB kX (uBx HB kY (uBx HB jP (uBx HB jQ (uAx HB jR))))))).1 fun hHeld => ?_
        clear hK K
        refine oN 13 (some 35) fun K hK => ?_
        refine Kd.dV Kd.string (w0 := w) w.heap.size (by rfl) (.tmp 33) (.tmp 34) 23 9 (.string ⟨#[]⟩) 16 rfl Try.underlying23 jT rfl (by decide) (by omega) BL YI l1 _ _ _ (fun k_ => some k_ ≠ (rQ : Value).ownBlock) (fun _ => False) rfl rfl ?aO ?aR (fun _ _ h => h) (fun _ h => h.elim) ?aF ?aB ?aS ?aL ?_
        (case aR => repeat (first | exact (Kd.bK tO.1 HB.1) | (with_reducible refine Kd.gU ?_ _) | (with_reducible refine Kd.gV ?_ _) | (with_reducible refine Kd.iW ?_)))
        (case aB => exact dS)
        (case aF => exact (fun k_ hk => Kd.fresh' (Kd.R_lt sP) k_ hk))
        (case aO => exact (by refine rR ?_; exact Kd.aM kE.1 (fun _ hk => hk.2)))
        (case aS => exact (aG dS))
        (case aL => have := RG.out; omega)
        intro yI Hx ho hb hg hat
        rw [← RL.out] at ho
        replace a3 := gkR aQ hg kE a3
        replace fX := am (Kd.gW (ok := (fun _ => True)) sP hg hat)
        replace HB := am hb
        have iL := am ho
        clear kE
        clear ho hb hg hat
        refine nK hK (uB2 a3 (uBx HB hU (uBx HB kX (uBx HB kY (uBx HB jP (uBx HB jQ (uAx HB jR))))))).1 fun hHeld => ?_
        clear hK K
        exact rW xY (hCont (BL, yI, rQ) _ ⟨hHeld, yU, Hf, aQ, dS⟩)
      ·skip
       refine lT 9 42 yP ?_
       intro rQ ln Mo hb
       have fX := am (Kd.cO Mo (aG dS))
       replace a3 := bB aQ hb
       replace HB := bS dS hb
       clear hb Mo
       refine nK hK (uB2 a3 (uBx HB hU (uBx HB kX (uBx HB kY (uBx HB jP (uBx HB jQ (uAx HB jR))))))).1 fun hHeld => ?_
       clear hK K
       refine oN 11 (some 33) fun K hK => ?_
       refine lT 9 33 Dh ?_
       intro BL Ou M5 hb
       have kE := am (Kd.cO (Kd.eF M5 (Kd.R_lt sP)) (aG dS))
       replace fX := am (Kd.dJ sP (Kd.bL M5) hb)
       replace a3 := bB aQ hb
       replace HB := bS dS hb
       clear hb M5
       refine nK hK (uB2 a3 (uBx HB hU (uBx HB kX (uBx HB kY (uBx HB jP (uBx HB jQ (uAx HB jR))))))).1 fun hHeld => ?_
       clear hK K
       refine oN 13 (some 35) fun K hK => ?_
       refine Kd.dV Kd.string (w0 := w) w.heap.size (by rfl) (.tmp 33) (.tmp 34) 23 9 (.string ⟨#[]⟩) 16 rfl Try.underlying23 jT rfl (by decide) (by omega) BL YI l1 _ _ _ (fun k_ => some k_ ≠ (rQ : Value).ownBlock) (fun _ => False) rfl rfl ?aO ?aR (fun _ _ h => h) (fun _ h => h.elim) ?aF ?aB ?aS ?aL ?_
       (case aR => repeat (first | exact (Kd.bK tO.1 HB.1) | (with_reducible refine Kd.gU ?_ _) | (with_reducible refine Kd.gV ?_ _) | (with_reducible refine Kd.iW ?_)))
       (case aB => exact dS)
       (case aF => exact (fun k_ hk => Kd.fresh' (Kd.R_lt sP) k_ hk))
       (case aO => exact (by refine rR ?_; exact Kd.aM kE.1 (fun _ hk => hk.2)))
       (case aS => exact (aG dS))
       (case aL => have := RG.out; omega)
       intro yI Hx ho hb hg hat
       rw [← RL.out] at ho
       replace a3 := gkR aQ hg kE a3
       replace fX := am (Kd.gW (ok := (fun _ => True)) sP hg hat)
       replace HB := am hb
       have iL := am ho
       clear kE
       clear ho hb hg hat
       refine nK hK (uB2 a3 (uBx HB hU (uBx HB kX (uBx HB kY (uBx HB jP (uBx HB jQ (uAx HB jR))))))).1 fun hHeld => ?_
       clear hK K
       exact rW xY (hCont (BL, yI, rQ) _ ⟨hHeld, yU, Hf, aQ, dS⟩)
     rintro ⟨BL, yI, rQ⟩ WQ ⟨hS_, h0_, h1_, h2_, h3_⟩
     have iL : aA (Kd.R Kd.string 9 WQ w.heap.size (fun k_ => some k_ ≠ (rQ : Value).ownBlock) yI R6) := ⟨h0_⟩
     have fX : aA (Kd.R Kd.string 9 WQ w.heap.size (fun k_ => some k_ ≠ (yI : Value).ownBlock) rQ sS) := ⟨h1_⟩
     replace a3 : aA (WQ.heap[aJ]? = some (.cells #[.slice eL aY.length eO, .slice (some e4) aI.length eJ] 31 (0, 0))) := ⟨h2_⟩
     replace HB : aA (Below w.heap.size w WQ) := ⟨h3_⟩
     clear h0_ h1_ h2_ h3_
     have hHeld : WQ.cell? ⟨aJ, 0, none⟩ = some (.slice eL aY.length eO) ∧ WQ.cell? ⟨aJ, 1, none⟩ = some (.slice (some e4) aI.length eJ) ∧ WQ.cell? (e4.add ((bV).toNat * 3)) = some (.string ((aC aI bV).f0)) ∧ WQ.cell? ⟨(e4.add ((bV).toNat * 3)).block, (e4.add ((bV).toNat * 3)).off + 1, none⟩ = some (.slice r9 ((aC aI bV).f1).length rK) ∧ WQ.cell? ⟨(e4.add ((bV).toNat * 3)).block, (e4.add ((bV).toNat * 3)).off + 2, none⟩ = some (.slice rA ((aC aI bV).f2).length rL) ∧ WQ.cell? (e4.add ((bV).toNat * 3)) = some (.string ((aC aI bV).f0)) ∧ WQ.cell? ⟨(e4.add ((bV).toNat * 3)).block, (e4.add ((bV).toNat * 3)).off + 1, none⟩ = some (.slice r9 ((aC aI bV).f1).length rK) ∧ WQ.cell? ⟨(e4.add ((bV).toNat * 3)).block, (e4.add ((bV).toNat * 3)).off + 2, none⟩ = some (.slice rA ((aC aI bV).f2).length rL) := hS_
     obtain ⟨Ya, bj, Ly⟩ := Kd.bN fX.1
     (first | subst Ly | (obtain ⟨f4_, f5_⟩ := sj Ly; subst f4_; subst f5_))
     refine rW (a' := ?_) ?_ ?_
     rotate_left
     ·simp only [CX, Act.put, List.setIfInBounds_toArray, List.set_cons_zero, List.set_cons_succ]
      rfl
     refine oN 21 (some 43) fun K hK => ?_
     refine Kd.dV Kd.string (w0 := w) w.heap.size (by rfl) (.tmp 35) (.tmp 42) 23 9 (.string ⟨#[]⟩) 16 rfl Try.underlying23 jT rfl (by decide) (by omega) yI R6 sS _ _ _ (fun k_ => some k_ ≠ (.slice Ya sS.length bj : Value).ownBlock) (fun _ => False) rfl rfl ?aO ?aR (fun _ _ h => h) (fun _ h => h.elim) ?aF ?aB ?aS ?aL ?_
     (case aR => repeat (first | exact (Kd.aT fX.1).2.2 | (with_reducible refine Kd.gU ?_ _) | (with_reducible refine Kd.gV ?_ _) | (with_reducible refine Kd.iW ?_)))
     (case aB => exact dS)
     (case aF => exact (fun k_ hk => Kd.fresh' (Kd.R_lt sP) k_ hk))
     (case aO => exact yU)
     (case aS => exact (aG dS))
     (case aL => have := Cx.out; omega)
     intro WM w40 ho hb hg hat
     rw [← I6.out] at ho
     replace a3 := gkR aQ hg iL a3
     replace fX := am (Kd.gW (ok := (fun _ => True)) (by refine rR ?_; exact Kd.aM fX.1 (fun _ hk => ⟨trivial, hk⟩)) hg hat)
     replace HB := am hb
     have pQ := am ho
     clear iL
     clear ho hb hg hat
     obtain ⟨Fw, J6, Gm⟩ := Kd.bN pQ.1
     (first | subst Gm | (obtain ⟨f4_, f5_⟩ := sj Gm; subst f4_; subst f5_))
     refine nK hK (uB2 a3 (uBx HB hU (uBx HB kX (uBx HB kY (uBx HB jP (uBx HB jQ (uAx HB jR))))))).1 fun hHeld => ?_
     clear hK K
     refine oN 22 (some 44) fun K hK => ?_
     refine gQ Try.func55 (ih k1 (by have := HK1.out; omega) _ _ aY _ _ aI _ _ JJ false _ (pB eQ) eP.1 (pB dO) fP.1 (pC (Kd.aT pQ.1).2.2) ((Kd.aT pQ.1).2.1) A18.out) ?_
     rintro lp hb
     replace fX := RB sP hb
     replace pQ := am (Kd.jY (rR pQ.1) hb)
     replace a3 := bB aQ hb
     replace HB := bS dS hb
     clear hb
     refine nK hK (uB2 a3 (uBx HB hU (uBx HB kX (uBx HB kY (uBx HB jP (uBx HB jQ (uAx HB jR))))))).1 fun hHeld => ?_
     clear hK K
     refine pU1 23 ?_
     refine dN ?_
     try go_wp2
     go_roundg k1
     case measure => have := HK1.out; omega
     case rel => exact ⟨(wrap64 (bV + 1)), dH, H', ⟨by have := HK1.out; omega⟩, ⟨rB a3.1⟩, ⟨dS⟩⟩
  ·obtain rfl := Option.some.inj H
   repeat clear H
   have Z44 := cz2 a3
   go_wp2
   go_ret
   exact ⟨eR, dS⟩
end Go.Proofs.Ytaofjgnhapnndaa.Q
