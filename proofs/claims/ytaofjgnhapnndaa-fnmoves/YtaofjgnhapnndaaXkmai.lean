/- Texts that the row needs: words on memory and rows, the contracts of the functions it reaches, and the plain lemmas on what they compute. -/
import Derived.Test.YtaofjgnhapnndaaXkmah
set_option maxHeartbeats 8000000
set_option maxRecDepth 100000
open Go.Proofs.YtaofjgnhapnndaaFkm
namespace Go.Proofs.Ytaofjgnhapnndaa.Q
open Go.RowKit Go.Proofs.YtaofjgnhapnndaaW.PrintWords Go.Proofs.YtaofjgnhapnndaaW.PrintLast Go.Proofs.YtaofjgnhapnndaaW.PrintMore
set_option linter.unusedVariables false
set_option linter.unusedSimpArgs false
theorem setCell_same {w : World} {b o : Nat} {v : Value} (h : w.cell? ⟨b, o, none⟩ = some v) : w.setCell ⟨b, o, none⟩ v = w := by
 have e : (w.setCell ⟨b, o, none⟩ v).heap = w.heap := by
  have h' : (match w.heap[b]? with | some (.cells c _ _) => c[o]? | _ => none) = some v := h
  show w.heap.modify b (fun | .cells c elem frozen => .cells (c.setIfInBounds o v) elem frozen | o => o) = w.heap
  apply Array.ext_getElem?
  intro i
  rw [Array.getElem?_modify]
  by_cases hi : b = i
  ·subst hi
   rw [if_pos rfl]
   cases hb : w.heap[b]? with
   | none => rfl
   | some ob =>
    rw [hb] at h'
    cases ob with
    | cells c el fr =>
     have h2 : c[o]? = some v := h'
     have : c.setIfInBounds o v = c := by
      apply Array.ext_getElem?
      intro j
      rw [Array.getElem?_setIfInBounds]
      by_cases hj : o = j
      ·subst hj
       rw [if_pos rfl, h2]
       by_cases hh : o < c.size
       ·rw [if_pos hh]
       ·rw [Array.getElem?_eq_none (by omega)] at h2; cases h2
      ·rw [if_neg hj]
     show some (Obj.cells (c.setIfInBounds o v) el fr) = _
     rw [this]
    | _ => rfl
  ·rw [if_neg hi]
 show { w with heap := (w.setCell ⟨b, o, none⟩ v).heap } = w
 rw [e]
def spec_ShareAsk.l0 : Nat → List ByteArray → Int → Int → List ByteArray → List (S56) → List ByteArray → List (S56) → List ByteArray → List (S56) → Option (List ByteArray × (List (S56)) × Int)
 | 0, _, _, _, _, _, _, _, _, _ => none
 | k + 1, d, b, c, g, h, i, j, e, a => if c < (d.length : Int) then (if 0 ≤ b then (if b < (a.length : Int) then (if 0 ≤ c then (if insF (rdOf ByteArray.empty d c) ((rd_T56 a b).f1) = true then (spec_ShareAsk.l0 k d b (wrap64 (c + 1)) g h i j e a) else ((spec_l3Insert.f k ((rd_T56 a b).f1) (rdOf ByteArray.empty d c)).bind fun n => (spec_ShareAsk.l0 k d b (wrap64 (c + 1)) g h i j e (a.set (b : Int).toNat (⟨(rd_T56 a b).f0, n, (rd_T56 a b).f2⟩ : S56))))) else (none)) else (none)) else (none)) else ((spec_ShareSafe.f k g h).bind fun o => (if o = true then ((spec_ShareSafe.f k e a).bind fun p => (if p = true then ((spec_l1Copy.f k e a).bind fun l => (some (l.1, l.2, 0))) else (some (i, j, 6)))) else ((spec_l1Copy.f k e a).bind fun m => (some (m.1, m.2, 0)))))
def spec_ShareAsk.f (k : Nat) (a7 : List ByteArray) (a4 : List (S56)) (a1 : ByteArray) (l2 : List ByteArray) : Option (List ByteArray × (List (S56)) × Int) := (spec_ShareBookOk.f k a7 a4).bind fun d => (if d = true then ((spec_l1Copy.f k a7 a4).bind fun a => ((spec_l1At.f k a7 a4 a1).bind fun b => (if b < 0 then (some (a.1, a.2, 3)) else (if 0 ≤ b then (if b < (a4.length : Int) then ((spec_l1NamesOk.f k l2 ((rd_T56 a4 b).f2)).bind fun e => (if e = true then ((spec_l3Taken.f k a7 a4 b l2).bind fun g => (if g = true then (some (a.1, a.2, 5)) else ((spec_l1Copy.f k a7 a4).bind fun c => (spec_ShareAsk.l0 k l2 b 0 a7 a4 a.1 a.2 c.1 c.2)))) else (some (a.1, a.2, 2)))) else (none)) else (none))))) else (some (([] : List ByteArray), ([] : List (S56)), 1)))
def spec_ShareAsk.T15 : Bool × List (List Nat × List Nat) := (true, [([], []), ([0], [0]), ([], []), ([], []), ([3], [3]), ([], []), ([4, 5], [4, 5]), ([6], [6]), ([7], [7]), ([], []), ([], []), ([9, 10], [9, 10]), ([11], [11]), ([8, 12], [8, 12]), ([1, 2, 0, 1, 2, 3, 4, 5, 6, 7, 8, 9, 10, 11, 12, 13], [1, 2]), ([14, 0, 1, 2, 3, 4, 5, 6, 7, 8, 9, 10, 11, 12, 13], [14]), ([15, 13, 13, 0, 1, 2, 3, 4, 5, 6, 7, 8, 9, 10, 11, 12, 13], [13, 15])])
def spec_ShareAsk.B15 : List Nat := [0, 1, 0, 0, 8, 0, 56, 120, 248, 0, 0, 1536, 3584, 8184, 16383, 32767, 65535]
theorem spec_ShareAsk.tab15 : rtab .any (opsOf Try.f61 15) = spec_ShareAsk.T15 := by kernel_rfl
theorem spec_ShareAsk.bits15 : waitsOk spec_ShareAsk.T15.2 spec_ShareAsk.B15 = true := by kernel_rfl
theorem spec_ShareAsk.calls (k : Nat) (bG : Option Addr) (bH : Nat) (a7 : List ByteArray) (bL : Option Addr) (bD : Nat) (a4 : List (S56)) (a1 : ByteArray) (A2 : Option Addr) (c2 : Nat) (l2 : List ByteArray) (r1 : List ByteArray) (r2 : List (S56)) (r3 : Int) (w : World) (cZ : Kd.C Kd.string w bG a7.length a7) (cX : a7.length ≤ bH) (cU : Kd.C k56 w bL a4.length a4) (cY : a4.length ≤ bD) (DR : Kd.C Kd.string w A2 l2.length l2) (DM : l2.length ≤ c2) (h : spec_ShareAsk.f k a7 a4 a1 l2 = some (r1, r2, r3)) :
  Calls Try.prog 61 #[.agg #[.slice bG a7.length bH, .slice bL a4.length bD], .string a1, .slice A2 l2.length c2] w fun e w' => ∃ v0_ v1_ : Value, e = .returned (.tuple #[.agg #[v0_, v1_], .int .i64 r3]) ∧ Kd.R Kd.string 9 w' w.heap.size (fun k_ => (w.heap.size ≤ k_)) v0_ r1 ∧ Kd.N k56 56 w' w.heap.size (F10 w v0_) v1_ r2 ∧ Below w.heap.size w w' := by
 have hu31 := Try.underlying31
 obtain ⟨bC, bA⟩ := mZ2 cZ cX
 obtain ⟨aK, bM⟩ := mZ2 cU cY
 obtain ⟨sU, oL⟩ := mZ2 DR DM
 clear cZ cX cU cY DR DM
 have HB := am (Below.refl w.heap.size w)
 unfold spec_ShareAsk.f at h
 have H := h
 clear h
 obtain ⟨bE, A4, H⟩ := bd H
 refine tC H ?_ ?_ <;> clear H <;> intro c5 H <;> subst c5
 obtain ⟨⟨aN, b9⟩, A6, H⟩ := bd H
 dsimp only at H
 obtain ⟨aT, A7, H⟩ := bd H
 refine ic H ?_ ?_ <;> clear H <;> intro sD H
 obtain ⟨rfl, rfl, rfl⟩ := sZ3 H
 repeat clear H
 have t9 := trivial
 have O2 := trivial
 rotate_left
 obtain ⟨DE, H⟩ := cN H
 obtain ⟨zR, H⟩ := cN H
 obtain ⟨qL, WL, H⟩ := bd H
 refine tC H ?_ ?_ <;> clear H <;> intro RS H <;> subst RS
 obtain ⟨qM, I0, H⟩ := bd H
 refine tC H ?_ ?_ <;> clear H <;> intro VM H <;> subst VM
 obtain ⟨rfl, rfl, rfl⟩ := sZ3 H
 repeat clear H
 have t9 := trivial
 have FY := trivial
 have II := trivial
 have O3 := trivial
 rotate_left
 obtain ⟨⟨eU, lI⟩, VK, H⟩ := bd H
 dsimp only at H
 have H' := am H
 repeat clear H
 have t9 := trivial
 have FY := trivial
 have II := trivial
 have zF := trivial
 rotate_left
 obtain ⟨rfl, rfl, rfl⟩ := sZ3 H
 repeat clear H
 have t9 := trivial
 have FY := trivial
 have O4 := trivial
 rotate_left
 obtain ⟨rfl, rfl, rfl⟩ := sZ3 H
 repeat clear H
 have O5 := trivial
 rotate_left
 all_goals
  go_enter Try.func61, Try.ntmps61
  go_wp2_with (first | ((with_reducible refine gD 3 ?_); refine bX 3 #[.slice bG a7.length bH, .slice bL a4.length bD] 31 ?_; intro a6 hg fa hbox hb; have a3 := am hbox; have bR := am (hJ : w.heap.size ≤ a6); have cJ := bR; replace HB := bS cI hb; clear hb hbox hg) | ((with_reducible refine gD 6 ?_); refine bX 6 #[.slice none 0 0, .slice none 0 0] 31 ?_; intro a8 hg fb hbox hb; have a5 := am hbox; have eO := am (p3 : w.heap.size ≤ a8); have eZ := eO; replace HB := bS aY hb; have aU := nL aC hg; have aV := nG aC hg; replace a3 := bB aC hb; clear hb hbox hg; have Vr := nZ1 aU aV; have YD := cz2 a3) | ((with_reducible refine gC 22 ?_); revert t9; intro t9; refine cQ (some 13) Try.func22 (spec_ShareBookOk.calls k _ _ a7 _ _ a4 true _ (pB bC) bA.1 (pB aK) bM.1 A4.out) ?_; rintro fc hb; replace a3 := bB aC hb; replace a5 := bB aH hb; replace HB := bS eX hb; (try clear hb); have YE := cz2 a3) | ((with_reducible refine gC 89 ?_); revert t9; intro t9; refine cE (some 17) Try.func89 (spec_l1Copy.calls k _ _ a7 _ _ a4 aN b9 _ (pB bC) bA.1 (pB aK) bM.1 A6.out) ?_; rintro e fd ⟨sG, qN, rfl, bQ, gY, hb⟩; refine ⟨_, rfl, ?_⟩; have aX := am (Kd.R_lower (Kd.R_newM (M := fun k_ => (w.heap.size ≤ k_)) bQ (below_size eX) (fun k_ h_ => h_)) (below_size eX)); have bV := am (Kd.N_lower (Kd.N_mono (ok' := F12 w sG a6 a8) (Kd.S_N (Kd.S_bound gY)) (fun k_ hk_ => ⟨(Nat.le_trans (below_size eX) hk_.2.1), hk_.1, (fB aC k_ hk_.2.1), (fB aH k_ hk_.2.1)⟩)) (below_size eX)); replace a3 := bB aC hb; replace a5 := bB aH hb; replace HB := bS eX hb; (try clear hb); (try clear bQ); (try clear gY)) | ((with_reducible refine gD 8 ?_); revert t9; intro t9; refine bX 8 #[.slice none 0 0, .slice none 0 0] 31 ?_; intro aI hg fe hbox hb; replace aX := RB iX hb; replace bV := am (Kd.N_below (Kd.N_elderB lA aI (Nat.le_of_eq hg.symm)) hb); have aE := am hbox; have qV := am (DT : w.heap.size ≤ aI); have sK := qV; replace HB := bS eX hb; have cC := nL aC hg; have d6 := nG aC hg; replace a3 := bB aC hb; have cO := nL aH hg; have dG := nG aH hg; replace a5 := bB aH hb; clear hb hbox hg; obtain ⟨fJ, fK, SZ⟩ := Kd.R_slice aX.1; subst SZ; have Vs := nZ2 d6 cC dG cO; have YF := cz2 aE; obtain ⟨n4, nB, T0⟩ := Kd.N_slice bV.1; subst T0; have YG := cz2 a3) | ((with_reducible refine gC 82 ?_); revert O2; intro O2; refine cQ (some 20) Try.func82 (spec_l1At.calls k _ _ a7 _ _ a4 a1 aT _ (Kd.C_below bC.1 cB) bA.1 (Kd.C_below aK.1 cB) bM.1 A7.out) ?_; rintro fg hb; replace aX := am (Kd.R_below (by refine rR ?_; exact (Kd.R_mono (fR (fR (tR aX aE))) (fun _ h_ => h_.1))) hb); replace bV := am (Kd.N_below (by refine rN ?_; exact (Kd.N_mono (fN (fN (Kd.N_mono bV.1 (fun k_ hk => (⟨hk, hk.2⟩ : _ ∧ k_ ≠ aI))))) (fun _ h_ => h_.1))) hb); replace a3 := am (blk_below (g := a6) (o := .cells #[.slice bG a7.length bH, .slice bL a4.length bD] 31 (0, 0)) UW hb); replace a5 := am (blk_below (g := a8) (o := .cells #[.slice none 0 0, .slice none 0 0] 31 (0, 0)) UX hb); replace aE := am (blk_below (g := aI) (o := .cells #[.slice fJ aN.length fK, .slice n4 b9.length nB] 31 (0, 0)) (qP aE) hb); replace HB := bS cB hb; (try clear hb); (try clear hk); have Vt := cz2 aE; have Vu := cz2 a5) | ((with_reducible refine gC 82 ?_); revert FY; intro FY; refine cQ (some 20) Try.func82 (spec_l1At.calls k _ _ a7 _ _ a4 a1 aT _ (Kd.C_below bC.1 cB) bA.1 (Kd.C_below aK.1 cB) bM.1 A7.out) ?_; rintro lB hb; replace aX := am (Kd.R_below (by refine rR ?_; exact (Kd.R_mono (fR (fR (tR aX aE))) (fun _ h_ => h_.1))) hb); replace bV := am (Kd.N_below (by refine rN ?_; exact (Kd.N_mono (fN (fN (Kd.N_mono bV.1 (fun k_ hk => (⟨hk, hk.2⟩ : _ ∧ k_ ≠ aI))))) (fun _ h_ => h_.1))) hb); replace a3 := am (blk_below (g := a6) (o := .cells #[.slice bG a7.length bH, .slice bL a4.length bD] 31 (0, 0)) UW hb); replace a5 := am (blk_below (g := a8) (o := .cells #[.slice none 0 0, .slice none 0 0] 31 (0, 0)) UX hb); replace aE := am (blk_below (g := aI) (o := .cells #[.slice fJ aN.length fK, .slice n4 b9.length nB] 31 (0, 0)) (qP aE) hb); replace HB := bS cB hb; (try clear hb); (try clear hk); have YH := cz2 a3; obtain ⟨mE, E7, EK, E8, EL, EY, rZ, pT, pX, xG, AO, mK, o4, JY, K6⟩ := aT56 aK HB aT; cases EY) | ((with_reducible refine gC 71 ?_); revert II; intro II; refine cQ (some 31) Try.func71 (spec_l1NamesOk.calls k _ _ l2 _ _ ((rd_T56 a4 aT).f2) true _ (pB sU) oL.1 (pB mK) o4.1 WL.out) ?_; rintro w' ⟨nd, rfl⟩; (try (rw [drewN_self lB]; generalize hq_ : World.drewN lB _ = lB; have n0_ : Aside0 (Kd.R Kd.string 9 lB w.heap.size (fun k_ => (((w.heap.size ≤ k_)) ∧ True)) (.slice fJ aN.length fK) aN) := ⟨by rw [← hq_]; exact iX⟩; have n1_ : Aside0 (Kd.N k56 56 lB w.heap.size (fun k_ => ((((w.heap.size ≤ k_)) ∧ (some k_ ≠ (.slice fJ aN.length fK : Value).ownBlock ∧ (k_ ≠ a6 ∧ k_ ≠ a8))) ∧ k_ ≠ aI)) (.slice n4 b9.length nB) b9) := ⟨by rw [← hq_]; exact lA⟩; have n2_ : Aside0 (lB.heap[a6]? = some (.cells #[.slice bG a7.length bH, .slice (some mE) a4.length bD] 31 (0, 0))) := ⟨by rw [← hq_]; exact aC⟩; have n3_ : Aside0 (lB.heap[a8]? = some (.cells #[.slice none 0 0, .slice none 0 0] 31 (0, 0))) := ⟨by rw [← hq_]; exact aH⟩; have n4_ : Aside0 (lB.heap[aI]? = some (.cells #[.slice fJ aN.length fK, .slice n4 b9.length nB] 31 (0, 0))) := ⟨by rw [← hq_]; exact dL⟩; have n5_ : Aside0 (Below w.heap.size w lB) := ⟨by rw [← hq_]; exact cB⟩; clear aX bV a3 a5 aE HB hq_; have aX := n0_; have bV := n1_; have a3 := n2_; have a5 := n3_; have aE := n4_; have HB := n5_; clear n0_ n1_ n2_ n3_ n4_ n5_)); have YI := cz2 a3) | ((with_reducible refine gC 105 ?_); revert O3; intro O3; refine cQ (some 37) Try.func105 (spec_l3Taken.calls k _ _ a7 _ _ a4 aT _ _ l2 true _ (pB bC) bA.1 (pB aK) bM.1 (pB sU) oL.1 I0.out) ?_; rintro fh hb; replace aX := RB iX hb; replace bV := NE lA hb; replace a3 := bB aC hb; replace a5 := bB aH hb; replace aE := bB dL hb; replace HB := bS cB hb; (try clear hb); have Vv := cz2 aE; have Vw := cz2 a5) | ((with_reducible refine gC 105 ?_); revert zF; intro zF; refine cQ (some 37) Try.func105 (spec_l3Taken.calls k _ _ a7 _ _ a4 aT _ _ l2 false _ (pB bC) bA.1 (pB aK) bM.1 (pB sU) oL.1 I0.out) ?_; rintro fi hb; replace aX := RB iX hb; replace bV := NE lA hb; replace a3 := bB aC hb; replace a5 := bB aH hb; replace aE := bB dL hb; replace HB := bS cB hb; (try clear hb); have YJ := cz2 a3) | ((with_reducible refine gC 89 ?_); revert zF; intro zF; refine cE (some 40) Try.func89 (spec_l1Copy.calls k _ _ a7 _ _ a4 eU lI _ (pB bC) bA.1 (pB aK) bM.1 VK.out) ?_; rintro e fj ⟨DY, V9, rfl, bQ, gY, hb⟩; refine ⟨_, rfl, ?_⟩; have gU := am (Kd.R_lower (Kd.R_new' (Kd.R_newM (M := fun k_ => (w.heap.size ≤ k_)) bQ (below_size cB) (fun k_ h_ => h_)) (Kd.R_lt iX)) (below_size cB)); have lR := am (Kd.N_lower (Kd.N_mono (ok' := F33 w DY (.slice fJ aN.length fK) (.slice n4 b9.length nB) a6 a8 aI) (Kd.S_N (Kd.S_bound gY)) (fun k_ hk_ => ⟨(Nat.le_trans (below_size cB) hk_.2.1), hk_.1, (Kd.fresh' (Kd.R_lt iX) k_ hk_.2.1), (Kd.fresh' (Kd.N_lt lA) k_ hk_.2.1), (fB aC k_ hk_.2.1), (fB aH k_ hk_.2.1), (fB dL k_ hk_.2.1)⟩)) (below_size cB)); replace aX := am (Kd.R_elder' iX (Kd.R_base bQ) hb); replace bV := am (Kd.N_mono (Kd.N_told (Kd.N_told (Kd.N_old lA hb) (Kd.R_base bQ)) mH) (fun _ h_ => h_.1)); replace a3 := bB aC hb; replace a5 := bB aH hb; replace aE := bB dL hb; replace HB := bS cB hb; (try clear hb); (try clear bQ); (try clear gY)) | ((with_reducible refine gD 10 ?_); revert zF; intro zF; refine bX 10 #[.slice none 0 0, .slice none 0 0] 31 ?_; intro nE hg fk hbox hb; replace aX := RB iX hb; replace bV := am (Kd.N_below (Kd.N_elderB lA nE (Nat.le_of_eq hg.symm)) hb); replace gU := am (Kd.R_below (rR gU.1) hb); replace lR := am (Kd.N_below (Kd.N_elderB (rN lR.1) nE (Nat.le_of_eq hg.symm)) hb); have fY := am hbox; have X8 := am (Qx : w.heap.size ≤ nE); have NK := X8; replace HB := bS cB hb; have oS := nL aC hg; have rO := nG aC hg; replace a3 := bB aC hb; have rK := nL aH hg; have vL := nG aH hg; replace a5 := bB aH hb; have rM := nL dL hg; have vM := nG dL hg; replace aE := bB dL hb; clear hb hbox hg; obtain ⟨n5, nC, T1⟩ := Kd.R_slice gU.1; subst T1; have Vy := nZ3 rO oS vL rK vM rM; have YK := cz2 fY; obtain ⟨QA, RZ, T2⟩ := Kd.N_slice lR.1; subst T2) | ((with_reducible refine gC 71 ?_); revert O4; intro O4; refine cQ (some 31) Try.func71 (spec_l1NamesOk.calls k _ _ l2 _ _ ((rd_T56 a4 aT).f2) false _ (pB sU) oL.1 (pB mK) o4.1 WL.out) ?_; rintro w' ⟨nd, rfl⟩; (try (rw [drewN_self lB]; generalize hq_ : World.drewN lB _ = lB; have n0_ : Aside0 (Kd.R Kd.string 9 lB w.heap.size (fun k_ => (((w.heap.size ≤ k_)) ∧ True)) (.slice fJ aN.length fK) aN) := ⟨by rw [← hq_]; exact iX⟩; have n1_ : Aside0 (Kd.N k56 56 lB w.heap.size (fun k_ => ((((w.heap.size ≤ k_)) ∧ (some k_ ≠ (.slice fJ aN.length fK : Value).ownBlock ∧ (k_ ≠ a6 ∧ k_ ≠ a8))) ∧ k_ ≠ aI)) (.slice n4 b9.length nB) b9) := ⟨by rw [← hq_]; exact lA⟩; have n2_ : Aside0 (lB.heap[a6]? = some (.cells #[.slice bG a7.length bH, .slice (some mE) a4.length bD] 31 (0, 0))) := ⟨by rw [← hq_]; exact aC⟩; have n3_ : Aside0 (lB.heap[a8]? = some (.cells #[.slice none 0 0, .slice none 0 0] 31 (0, 0))) := ⟨by rw [← hq_]; exact aH⟩; have n4_ : Aside0 (lB.heap[aI]? = some (.cells #[.slice fJ aN.length fK, .slice n4 b9.length nB] 31 (0, 0))) := ⟨by rw [← hq_]; exact dL⟩; have n5_ : Aside0 (Below w.heap.size w lB) := ⟨by rw [← hq_]; exact cB⟩; clear aX bV a3 a5 aE HB hq_; have aX := n0_; have bV := n1_; have a3 := n2_; have a5 := n3_; have aE := n4_; have HB := n5_; clear n0_ n1_ n2_ n3_ n4_ n5_)); have Vz := cz2 aE; have Wa := cz2 a5) | ((with_reducible refine gC 22 ?_); revert O5; intro O5; refine cQ (some 13) Try.func22 (spec_ShareBookOk.calls k _ _ a7 _ _ a4 false _ (pB bC) bA.1 (pB aK) bM.1 A4.out) ?_; rintro fl hb; replace a3 := bB aC hb; replace a5 := bB aH hb; replace HB := bS eX hb; (try clear hb); have Wb := cz2 a5))
 ·refine cT a8 31 #[.slice fJ aN.length fK, .slice n4 b9.length nB] (qP a5) Try.underlying31 ?_
  exact ⟨_, _, eR, mR aX a5, by refine rN ?_; exact Kd.N_mono (fN (fN (Kd.N_mono bV.1 (fun k_ hk => (⟨hk, hk.1.2.2.2⟩ : _ ∧ k_ ≠ a8))))) (fun _ hk => ⟨hk.1.1.1, hk.1.1.2.1⟩), cB⟩
 ·refine cT a8 31 #[.slice fJ aN.length fK, .slice n4 b9.length nB] (qP a5) Try.underlying31 ?_
  exact ⟨_, _, eR, mR aX a5, by refine rN ?_; exact Kd.N_mono (fN (fN (Kd.N_mono bV.1 (fun k_ hk => (⟨hk, hk.1.2.2.2⟩ : _ ∧ k_ ≠ a8))))) (fun _ hk => ⟨hk.1.1.1, hk.1.1.2.1⟩), cB⟩
 ·go_loopg [11] k (fun kq Rt w' => ∃ (gH : Int) (mZ : List (S56)) (aZ : List (S56)) (l6 : Value) (xX : Value), Rt = .int .i64 gH ∧ Aside0 (spec_ShareAsk.l0 kq l2 aT gH a7 a4 aN mZ eU aZ = some (r1, r2, r3)) ∧ Aside0 (kq ≤ k) ∧ Aside0 (Kd.R Kd.string 9 w' w.heap.size (F10 w (.slice n5 eU.length nC)) (.slice fJ aN.length fK) aN) ∧ Aside0 (Kd.N k56 56 w' w.heap.size (F34 w (.slice fJ aN.length fK) (.slice n5 eU.length nC) xX a6 a8 aI nE) l6 mZ) ∧ Aside0 (Kd.R Kd.string 9 w' w.heap.size (F10 w (.slice fJ aN.length fK)) (.slice n5 eU.length nC) eU) ∧ Aside0 (Kd.N k56 56 w' w.heap.size (F34 w (.slice fJ aN.length fK) l6 (.slice n5 eU.length nC) a6 a8 aI nE) xX aZ) ∧ Aside0 (w'.heap[a6]? = some (.cells #[(.slice bG a7.length bH), (.slice (some mE) a4.length bD)] 31 (0, 0))) ∧ Aside0 (w'.heap[a8]? = some (.cells #[(.slice none 0 0), (.slice none 0 0)] 31 (0, 0))) ∧ Aside0 (w'.heap[aI]? = some (.cells #[(.slice fJ aN.length fK), l6] 31 (0, 0))) ∧ Aside0 (w'.heap[nE]? = some (.cells #[(.slice n5 eU.length nC), xX] 31 (0, 0))) ∧ Aside0 (Below w.heap.size w w'))
  case atStart => exact ⟨(0), (b9), (lI), (.slice n4 b9.length nB), (.slice QA lI.length RZ), aQ, H', ⟨Nat.le_refl _⟩, ⟨by refine rR ?_; exact Kd.R_mono (fR (fR (tR aX fY))) (fun _ hk => ⟨hk.1.1.1, hk.1.2⟩)⟩, ⟨by refine rN ?_; exact Kd.N_mono (fN (fN (Kd.N_mono bV.1 (fun k_ hk => (⟨hk, hk.2⟩ : _ ∧ k_ ≠ nE))))) (fun _ hk => ⟨hk.1.1.1.1.1.1, ⟨hk.1.1.1.1.1.2.1, ⟨hk.1.1.1.2, ⟨hk.1.1.2, ⟨hk.1.1.1.1.1.2.2.1, ⟨hk.1.1.1.1.1.2.2.2, ⟨hk.1.1.1.1.2, hk.1.2⟩⟩⟩⟩⟩⟩⟩)⟩, ⟨by refine rR ?_; exact Kd.R_mono (fR (fR (tR gU fY))) (fun _ hk => ⟨hk.1.1.1, hk.1.2⟩)⟩, ⟨by refine rN ?_; exact Kd.N_mono (fN (fN (Kd.N_mono lR.1 (fun k_ hk => (⟨hk, hk.2⟩ : _ ∧ k_ ≠ nE))))) (fun _ hk => ⟨hk.1.1.1, ⟨hk.1.1.2.2.1, ⟨hk.1.1.2.2.2.1, ⟨hk.1.1.2.1, ⟨hk.1.1.2.2.2.2.1, ⟨hk.1.1.2.2.2.2.2.1, ⟨hk.1.1.2.2.2.2.2.2, hk.1.2⟩⟩⟩⟩⟩⟩⟩)⟩, ⟨qF a3 oS⟩, ⟨qF a5 rK⟩, ⟨qF aE rM⟩, ⟨qP fY⟩, ⟨nS⟩⟩
  clear H'
  try clear c2
  try clear c5
  try clear sD
  try clear DE
  try clear zR
  try clear RS
  try clear VM
  try clear YD
  try clear YE
  try clear YF
  try clear YG
  try clear YH
  try clear YI
  try clear YJ
  try clear YK
  try clear rZ pT pX
  try clear JY K6
  obtain ⟨gH, mZ, aZ, l6, xX, rfl, HA, HK1, aM, aA, dM, bO, a3, a5, aE, fY, HB⟩ := hrel
  cases gk with
  | zero => exact absurd HA.out (by simp [spec_ShareAsk.l0])
  | succ k1 =>
   have H := HA.out
   clear HA
   simp only [spec_ShareAsk.l0] at H
   refine ic H ?_ ?_ <;> clear H <;> intro Zc H
   obtain ⟨ZJ, H⟩ := cN H
   obtain ⟨ZK, H⟩ := cN H
   obtain ⟨ZL, H⟩ := cN H
   have HF := am H
   clear H
   rotate_left
   obtain ⟨oJ, Tj, H⟩ := bd H
   refine tC H ?_ ?_ <;> clear H <;> intro mg H <;> subst mg
   obtain ⟨oh, Tk, H⟩ := bd H
   refine tC H ?_ ?_ <;> clear H <;> intro mh H <;> subst mh
   obtain ⟨⟨CM, F6⟩, jd, H⟩ := bd H
   dsimp only at H
   obtain ⟨rfl, rfl, rfl⟩ := sZ3 H
   repeat clear H
   have lx := nZ3 aU aV cC d6 oS rO
   have ly := cz2 a3
   have IJ := trivial
   have FZ := trivial
   rotate_left
   obtain ⟨rfl, rfl, rfl⟩ := sZ3 H
   repeat clear H
   have jy := nZ3 aU aV cC d6 oS rO
   have jz := cz2 a3
   have IJ := trivial
   have O6 := trivial
   rotate_left
   obtain ⟨⟨yK, Cz⟩, Ld, H⟩ := bd H
   dsimp only at H
   obtain ⟨rfl, rfl, rfl⟩ := sZ3 H
   repeat clear H
   have ki := nZ3 aU aV cC d6 oS rO
   have Mk := cz2 a3
   have G0 := trivial
   rotate_left
   all_goals
    try go_wp2_with (first | ((with_reducible refine gC 35 ?_); revert IJ; intro IJ; refine cQ (some 64) Try.func35 (spec_ShareSafe.calls k1 _ _ a7 _ _ a4 true _ (pB bC) bA.1 (pB aK) bM.1 Tj.out) ?_; rintro fm hb; replace aM := RB e8 hb; replace aA := NE iN hb; replace dM := RB oY hb; replace bO := NE sP hb; replace a3 := bB aC hb; replace a5 := bB aH hb; replace aE := bB dL hb; replace fY := bB sO hb; replace HB := bS nS hb; (try clear hb); have Wc := nZ2 vL rK vM rM; have Wd := cz2 fY; obtain ⟨QC, S1, TA⟩ := Kd.N_slice bO.1; subst TA) | (go_at_call 35; revert FZ; intro FZ; refine cM (spec_ShareSafe.calls k1 _ _ eU _ _ aZ true _ (pC (Kd.R_reads' dM.1).2.2) ((Kd.R_reads' dM.1).2.1) (pC (Kd.N_reads' bO.1).2.2) ((Kd.N_reads' bO.1).2.1) Tk.out) ?_; rintro fo hb; replace aM := RB e8 hb; replace aA := NE iN hb; replace dM := RB oY hb; replace bO := NE sP hb; replace a3 := bB aC hb; replace a5 := bB aH hb; replace aE := bB dL hb; replace fY := bB sO hb; replace HB := bS nS hb; (try clear hb); have We := cz2 fY) | ((with_reducible refine gC 89 ?_); revert FZ; intro FZ; refine cE (some 72) Try.func89 (spec_l1Copy.calls k1 _ _ eU _ _ aZ CM F6 _ (pC (Kd.R_reads' dM.1).2.2) ((Kd.R_reads' dM.1).2.1) (pC (Kd.N_reads' bO.1).2.2) ((Kd.N_reads' bO.1).2.1) jd.out) ?_; rintro e fp ⟨N7, HS, rfl, bQ, gY, hb⟩; refine ⟨_, rfl, ?_⟩; have wG := am (Kd.R_lower (Kd.R_new' (Kd.R_new' (Kd.R_newM (M := fun k_ => (w.heap.size ≤ k_)) bQ (below_size nS) (fun k_ h_ => h_)) (Kd.R_lt e8)) (Kd.R_lt oY)) (below_size nS)); have FQ := am (Kd.N_lower (Kd.N_mono (ok' := F54 w N7 (.slice fJ aN.length fK) l6 (.slice n5 eU.length nC) (.slice QC aZ.length S1) a6 a8 aI nE) (Kd.S_N (Kd.S_bound gY)) (fun k_ hk_ => ⟨(Nat.le_trans (below_size nS) hk_.2.1), hk_.1, (Kd.fresh' (Kd.R_lt e8) k_ hk_.2.1), (Kd.fresh' (Kd.N_lt iN) k_ hk_.2.1), (Kd.fresh' (Kd.R_lt oY) k_ hk_.2.1), (Kd.fresh' (Kd.N_lt sP) k_ hk_.2.1), (fB aC k_ hk_.2.1), (fB aH k_ hk_.2.1), (fB dL k_ hk_.2.1), (fB sO k_ hk_.2.1)⟩)) (below_size nS)); replace aM := am (Kd.R_elder' e8 (Kd.R_base bQ) hb); replace aA := am (Kd.N_mono (Kd.N_told (Kd.N_told (Kd.N_old iN hb) (Kd.R_base bQ)) mH) (fun _ h_ => h_.1)); replace dM := am (Kd.R_elder' oY (Kd.R_base bQ) hb); replace bO := am (Kd.N_mono (Kd.N_told (Kd.N_told (Kd.N_old sP hb) (Kd.R_base bQ)) mH) (fun _ h_ => h_.1)); replace a3 := bB aC hb; replace a5 := bB aH hb; replace aE := bB dL hb; replace fY := bB sO hb; replace HB := bS nS hb; (try clear hb); (try clear bQ); (try clear gY); obtain ⟨QD, S3, TB⟩ := Kd.R_slice wG.1; subst TB; have Wf := nZ1 cO dG; have Wg := cz2 a5; obtain ⟨QE, S4, TC⟩ := Kd.N_slice FQ.1; subst TC) | (go_at_call 35; revert O6; intro O6; refine cM (spec_ShareSafe.calls k1 _ _ eU _ _ aZ false _ (pC (Kd.R_reads' dM.1).2.2) ((Kd.R_reads' dM.1).2.1) (pC (Kd.N_reads' bO.1).2.2) ((Kd.N_reads' bO.1).2.1) Tk.out) ?_; rintro fq hb; replace aM := RB e8 hb; replace aA := NE iN hb; replace dM := RB oY hb; replace bO := NE sP hb; replace a3 := bB aC hb; replace a5 := bB aH hb; replace aE := bB dL hb; replace fY := bB sO hb; replace HB := bS nS hb; (try clear hb); have Wh := nZ1 dG cO; have Wi := cz2 aE; have Wj := cz2 a5; obtain ⟨QF, S5, TD⟩ := Kd.N_slice aA.1; subst TD) | ((with_reducible refine gC 35 ?_); revert G0; intro G0; refine cQ (some 64) Try.func35 (spec_ShareSafe.calls k1 _ _ a7 _ _ a4 false _ (pB bC) bA.1 (pB aK) bM.1 Tj.out) ?_; rintro fs hb; replace aM := RB e8 hb; replace aA := NE iN hb; replace dM := RB oY hb; replace bO := NE sP hb; replace a3 := bB aC hb; replace a5 := bB aH hb; replace aE := bB dL hb; replace fY := bB sO hb; replace HB := bS nS hb; (try clear hb); have Wk := nZ2 vL rK vM rM; have Wl := cz2 fY; obtain ⟨QG, S6, TE⟩ := Kd.N_slice bO.1; subst TE) | ((with_reducible refine gC 89 ?_); revert G0; intro G0; refine cE (some 72) Try.func89 (spec_l1Copy.calls k1 _ _ eU _ _ aZ yK Cz _ (pC (Kd.R_reads' dM.1).2.2) ((Kd.R_reads' dM.1).2.1) (pC (Kd.N_reads' bO.1).2.2) ((Kd.N_reads' bO.1).2.1) Ld.out) ?_; rintro e ft ⟨Dj, ov, rfl, bQ, gY, hb⟩; refine ⟨_, rfl, ?_⟩; have D1 := am (Kd.R_lower (Kd.R_new' (Kd.R_new' (Kd.R_newM (M := fun k_ => (w.heap.size ≤ k_)) bQ (below_size nS) (fun k_ h_ => h_)) (Kd.R_lt e8)) (Kd.R_lt oY)) (below_size nS)); have NN := am (Kd.N_lower (Kd.N_mono (ok' := F54 w Dj (.slice fJ aN.length fK) l6 (.slice n5 eU.length nC) (.slice QG aZ.length S6) a6 a8 aI nE) (Kd.S_N (Kd.S_bound gY)) (fun k_ hk_ => ⟨(Nat.le_trans (below_size nS) hk_.2.1), hk_.1, (Kd.fresh' (Kd.R_lt e8) k_ hk_.2.1), (Kd.fresh' (Kd.N_lt iN) k_ hk_.2.1), (Kd.fresh' (Kd.R_lt oY) k_ hk_.2.1), (Kd.fresh' (Kd.N_lt sP) k_ hk_.2.1), (fB aC k_ hk_.2.1), (fB aH k_ hk_.2.1), (fB dL k_ hk_.2.1), (fB sO k_ hk_.2.1)⟩)) (below_size nS)); replace aM := am (Kd.R_elder' e8 (Kd.R_base bQ) hb); replace aA := am (Kd.N_mono (Kd.N_told (Kd.N_told (Kd.N_old iN hb) (Kd.R_base bQ)) mH) (fun _ h_ => h_.1)); replace dM := am (Kd.R_elder' oY (Kd.R_base bQ) hb); replace bO := am (Kd.N_mono (Kd.N_told (Kd.N_told (Kd.N_old sP hb) (Kd.R_base bQ)) mH) (fun _ h_ => h_.1)); replace a3 := bB aC hb; replace a5 := bB aH hb; replace aE := bB dL hb; replace fY := bB sO hb; replace HB := bS nS hb; (try clear hb); (try clear bQ); (try clear gY); obtain ⟨QH, S7, TF⟩ := Kd.R_slice D1.1; subst TF; have Wm := nZ1 cO dG; have Wn := cz2 a5; obtain ⟨QI, S8, TG⟩ := Kd.N_slice NN.1; subst TG))
   ·replace aM := RD aM
    replace aA := ND aA
    replace dM := RD dM
    replace bO := ND bO
    replace a3 := BD a3
    replace a5 := BD a5
    replace aE := BD aE
    replace fY := BD fY
    replace HB := am (below_drew1 HB.1)
    obtain ⟨js, JF, Av⟩ := Kd.N_slice bO.1
    (first | subst Av | (obtain ⟨f4_, f5_⟩ := sj Av; subst f4_; subst f5_))
    have JZ : 0 ≤ (aT : Int) := oT
    have K7 : aT < (aZ.length : Int) := oT
    obtain ⟨yC, xY, yD, Q2, RM, SL, uJ, uK, uL, GL, GF, GM, GG⟩ := at_T56 (Kd.N_reads' bO.1).2.2 aT JZ K7
    cases SL
    obtain ⟨ce122, hce122, hMe122, hcc122⟩ := Kd.N_get bO.1 z56 aT JZ (by first | exact K7 | exact oT | (have e_ := (Kd.N_reads' bO.1).1; omega))
    obtain ⟨ua122_1, uc122_1, ua122_2, uc122_2, rfl, CP, BF, CQ, BG⟩ := k56_openF hMe122
    have xP := hcc122 1 _ rfl
    rw [add_field _ _ 1 (by omega)] at xP
    replace xP := Option.some.inj (xP.symm.trans uK)
    injection xP with hva_ hvn_ hvc_
    rw [hva_] at BF
    rw [hvc_] at CP
    have xA := am (show Kd.V Kd.string 9 _ w.heap.size _ _ ((rd_T56 aZ aT).f1) from Kd.V_mk CP BF)
    clear hva_ hvn_ hvc_ BF CP
    have xQ := hcc122 2 _ rfl
    rw [add_field _ _ 2 (by omega)] at xQ
    replace xQ := Option.some.inj (xQ.symm.trans uL)
    injection xQ with hva_ hvn_ hvc_
    rw [hva_] at BG
    rw [hvc_] at CQ
    have xB := am (show Kd.V Kd.string 9 _ w.heap.size _ _ ((rd_T56 aZ aT).f2) from Kd.V_mk CQ BG)
    clear hva_ hvn_ hvc_ BG CQ
    clear hcc122 hce122
    have jU := am GF
    have FO := am GL
    clear GF GL
    have pF := am GG
    have Eg := am GM
    clear GG GM
    replace JZ := eq_true JZ
    replace K7 := eq_true K7
    obtain ⟨YP, Oi, C0, MT, ny, od⟩ := aSw sU HB gH
    cases Oi
    refine sT (S := fun w' => w'.cell? ⟨nE, 0, none⟩ = some (.slice n5 eU.length nC) ∧ w'.cell? ⟨nE, 1, none⟩ = some (.slice (some yC) aZ.length JF) ∧ w'.cell? (yC.add ((aT).toNat * 3)) = some (.string ((rd_T56 aZ aT).f0)) ∧ w'.cell? ⟨(yC.add ((aT).toNat * 3)).block, (yC.add ((aT).toNat * 3)).off + 1, none⟩ = some (.slice xY ((rd_T56 aZ aT).f1).length yD) ∧ w'.cell? ⟨(yC.add ((aT).toNat * 3)).block, (yC.add ((aT).toNat * 3)).off + 2, none⟩ = some (.slice Q2 ((rd_T56 aZ aT).f2).length RM) ∧ w'.cell? (YP.add (gH).toNat) = some (.string (rdOf ByteArray.empty l2 gH))) [16] 17 ⟨⟨(blk_cell fY.1 0).trans rfl, (blk_cell fY.1 1).trans rfl, uJ, uK, uL, (hX HB C0)⟩⟩ (fun hHeld => ?_)
    refine with_tabW spec_ShareAsk.tab15 spec_ShareAsk.bits15 (fun HT_ HW_ => ?_)
    generalize wr.drew = sr at aM aA dM bO a3 a5 aE fY HB xA xB jU pF uJ uK uL MT hHeld ⊢
    refine pU7 0 2 3 5 9 10 11 ?_
    refine tK6 1 (some 48) ?_
    refine tK6 4 (some 51) ?_
    refine pU2 6 7 ?_
    refine tK6 8 (some 55) ?_
    refine tK6 12 (some 59) ?_
    have H := HF.out
    clear HF
    by_cases cF : insF (rdOf ByteArray.empty l2 gH) ((rd_T56 aZ aT).f1) = true
    ·rw [if_pos cF] at H
     have H' := am H
     repeat clear H
     have Ll := am (show spec_l3Insert.q0 (((rd_T56 aZ aT).f1).length + 1) ((rd_T56 aZ aT).f1) (rdOf ByteArray.empty l2 gH) 0 = some true from spec_l3Insert.q0_of ((rd_T56 aZ aT).f1) (rdOf ByteArray.empty l2 gH) jU.1.2.1 ((rd_T56 aZ aT).f1).length 0 (by omega) (by simpa using cF))
     refine oN 13 (some 60) fun K hK => ?_
     refine goes_ Try.func106 (by kernel_rfl) rfl #[.slice xY ((rd_T56 aZ aT).f1).length yD, .string (rdOf ByteArray.empty l2 gH)] (by rfl) rfl rfl sE ?_
     with_reducible refine (spec_l3Insert.same (((rd_T56 aZ aT).f1).length + 1) _ _ ((rd_T56 aZ aT).f1) (rdOf ByteArray.empty l2 gH) _ ?side1 ?side2 Ll.out).mono ?_
     (case side1 => exact pC (by repeat (first | (with_reducible exact jU.1) | (with_reducible refine Kd.C_alloc ?_ _) | (with_reducible refine Kd.C_drewN ?_ _) | (with_reducible refine Kd.C_drew ?_) | exact jU.1)))
     (case side2 => exact FO.1)
     rintro e Kw ⟨rfl, hb⟩
     have HS2_ := (hb.cell (World.block_lt_of_cell? _ _ (hHeld.2.2.1))).trans (hHeld.2.2.1)
     have HS3_ := (hb.cell (World.block_lt_of_cell? _ _ (hHeld.2.2.2.1))).trans (hHeld.2.2.2.1)
     have HS4_ := (hb.cell (World.block_lt_of_cell? _ _ (hHeld.2.2.2.2.1))).trans (hHeld.2.2.2.2.1)
     refine ⟨_, rfl, ?_⟩
     replace aM := RB e8 hb
     replace aA := NE iN hb
     replace dM := RB oY hb
     replace bO := NE sP hb
     replace a3 := bB aC hb
     replace a5 := bB aH hb
     replace aE := bB dL hb
     replace fY := bB sO hb
     replace jU := am (Kd.C_below (by repeat (first | (with_reducible exact jU.1) | (with_reducible refine Kd.C_alloc ?_ _) | (with_reducible refine Kd.C_drewN ?_ _) | (with_reducible refine Kd.C_drew ?_) | exact jU.1)) hb)
     replace pF := am (Kd.C_below (by repeat (first | (with_reducible exact pF.1) | (with_reducible refine Kd.C_alloc ?_ _) | (with_reducible refine Kd.C_drewN ?_ _) | (with_reducible refine Kd.C_drew ?_) | exact pF.1)) hb)
     replace HB := bS nS hb
     clear xA
     clear xB
     (try clear hb)
     (try clear hb2)
     (try clear hk)
     (try clear hi)
     (try clear bQ)
     have UU : 0 ≤ (aT : Int) := oT
     have V1 : (aT : Int) < ((aZ.length : Int) : Int) := oT
     obtain ⟨m7, Aa, F0, JN, gl85, cl85, HG85⟩ := Kd.N_form bO.1 (by omega)
     (first | cases F0 | (injection F0 with ea_ en_ ec_; (first | subst ea_ | (injection ea_ with ea_; subst ea_)); subst ec_; clear en_))
     have GB85 := am JN
     have GG85 := am HG85
     clear JN gl85 HG85
     (first | simp only [add_plain] at uJ | skip)
     (first | simp only [add_plain] at uK | skip)
     (first | simp only [add_plain] at uL | skip)
     obtain ⟨ce85, hcl85, hM85, hcc85, hfr85⟩ := Kd.N_elem bO.1 z56 (aT : Int) UU V1
     obtain ⟨ua85_1, uc85_1, ua85_2, uc85_2, rfl, V5, U3, V6, U4⟩ := k56_openF hM85
     have UN : World.cell? _ ⟨m7, (aT : Int).toNat * 3, none⟩ = some (.string ((rd_T56 aZ aT).f0)) := hcc85 0 _ rfl
     have UO : World.cell? _ ⟨m7, (aT : Int).toNat * 3 + 1, none⟩ = some (.slice ua85_1 ((rd_T56 aZ aT).f1).length uc85_1) := hcc85 1 _ rfl
     have UP : World.cell? _ ⟨m7, (aT : Int).toNat * 3 + 2, none⟩ = some (.slice ua85_2 ((rd_T56 aZ aT).f2).length uc85_2) := hcc85 2 _ rfl
     have hf85_0 : World.frozen? _ ⟨m7, (aT : Int).toNat * 3, none⟩ = false := hfr85 0
     have hf85_1 : World.frozen? _ ⟨m7, (aT : Int).toNat * 3 + 1, none⟩ = false := hfr85 1
     have hf85_2 : World.frozen? _ ⟨m7, (aT : Int).toNat * 3 + 2, none⟩ = false := hfr85 2
     clear hcl85 hcc85 hfr85 hM85
     replace UU := eq_true UU
     replace V1 := eq_true V1
     refine hK.out _ _ ⟨(blk_cell fY.1 0).trans rfl, (blk_cell fY.1 1).trans rfl, HS2_, HS3_, HS4_, (hX HB C0)⟩ (fun hHeld => ?_)
     clear hK K
     refine nM ?_
     refine pU2 14 15 ?_
     refine lN 16 none fun K hK => ?_
     have hst_ : Kw.cell? ⟨m7, (aT : Int).toNat * 3 + 1, none⟩ = some (.slice xY ((rd_T56 aZ aT).f1).length yD) := by
      have h_ := HS3_
      simp only [add_plain] at h_
      exact h_
     refine skip_ (w1 := (Kw.setCell ⟨m7, (aT : Int).toNat * 3 + 1, none⟩ (.slice xY ((rd_T56 aZ aT).f1).length yD))) (by rfl) rfl ?_ ?_
     ·go_simp
      (try rfl)
     refine hK.out _ _ ?_
     clear hK K
     refine dN ?_
     rw [setCell_same hst_]
     try go_wp2
     go_roundg k1
     case measure => have := HK1.out; omega
     case rel => exact ⟨(wrap64 (gH + 1)), (mZ), (aZ), (l6), (.slice (some ⟨m7, 0, none⟩) aZ.length JF), rfl, H', ⟨by have := HK1.out; omega⟩, aM, aA, dM, bO, a3, a5, aE, fY, HB⟩
    ·rw [if_neg cF] at H
     obtain ⟨HM, Ll, H⟩ := bd H
     obtain ⟨z7, yA⟩ := yv (aZ.set (aT : Int).toNat (⟨(rd_T56 aZ aT).f0, HM, (rd_T56 aZ aT).f2⟩ : S56)); first | replace H := bW yA H | rw [← yA.1] at H
     have H' := am H
     repeat clear H
     refine oN 13 (some 60) fun K hK => ?_
     refine goes_ Try.func106 (by kernel_rfl) rfl #[.slice xY ((rd_T56 aZ aT).f1).length yD, .string (rdOf ByteArray.empty l2 gH)] (by rfl) rfl rfl sE ?_
     with_reducible refine (spec_l3Insert.calls k1 _ _ ((rd_T56 aZ aT).f1) (rdOf ByteArray.empty l2 gH) HM _ ?side1 ?side2 Ll.out).mono ?_
     (case side1 => exact pC (by repeat (first | (with_reducible exact jU.1) | (with_reducible refine Kd.C_alloc ?_ _) | (with_reducible refine Kd.C_drewN ?_ _) | (with_reducible refine Kd.C_drew ?_) | exact jU.1)))
     (case side2 => exact FO.1)
     rintro e Kw ⟨rE, rfl, bQ, hb⟩
     have HS2_ := (hb.cell (World.block_lt_of_cell? _ _ (hHeld.2.2.1))).trans (hHeld.2.2.1)
     have HS3_ := (hb.cell (World.block_lt_of_cell? _ _ (hHeld.2.2.2.1))).trans (hHeld.2.2.2.1)
     have HS4_ := (hb.cell (World.block_lt_of_cell? _ _ (hHeld.2.2.2.2.1))).trans (hHeld.2.2.2.2.1)
     refine ⟨_, rfl, ?_⟩
     replace aA := am (Kd.N_elder' iN (Kd.R_base bQ) hb)
     replace bO := am (Kd.N_elder' sP (Kd.R_base bQ) hb)
     replace xA := am (Kd.V_elder' (rV xA.out) (Kd.R_base bQ) hb)
     replace xB := am (Kd.V_elder' (rV xB.out) (Kd.R_base bQ) hb)
     have iJ := am (Kd.R_lower (Kd.R_new' (Kd.R_new' (Kd.R_newM (M := fun k_ => (w.heap.size ≤ k_)) bQ (below_size nS) (fun k_ h_ => h_)) (Kd.R_lt e8)) (Kd.R_lt oY)) (below_size nS))
     replace aM := am (Kd.R_elder' e8 (Kd.R_base bQ) hb)
     replace dM := am (Kd.R_elder' oY (Kd.R_base bQ) hb)
     replace a3 := bB aC hb
     replace a5 := bB aH hb
     replace aE := bB dL hb
     replace fY := bB sO hb
     replace jU := am (Kd.C_below (by repeat (first | (with_reducible exact jU.1) | (with_reducible refine Kd.C_alloc ?_ _) | (with_reducible refine Kd.C_drewN ?_ _) | (with_reducible refine Kd.C_drew ?_) | exact jU.1)) hb)
     replace pF := am (Kd.C_below (by repeat (first | (with_reducible exact pF.1) | (with_reducible refine Kd.C_alloc ?_ _) | (with_reducible refine Kd.C_drewN ?_ _) | (with_reducible refine Kd.C_drew ?_) | exact pF.1)) hb)
     replace HB := bS nS hb
     (try clear hb)
     (try clear hb2)
     (try clear hk)
     (try clear hi)
     (try clear bQ)
     have UU : 0 ≤ (aT : Int) := oT
     have V1 : (aT : Int) < ((aZ.length : Int) : Int) := oT
     obtain ⟨m7, Aa, F0, JN, gl85, cl85, HG85⟩ := Kd.N_form bO.1 (by omega)
     (first | cases F0 | (injection F0 with ea_ en_ ec_; (first | subst ea_ | (injection ea_ with ea_; subst ea_)); subst ec_; clear en_))
     have GB85 := am JN
     have GG85 := am HG85
     clear JN gl85 HG85
     (first | simp only [add_plain] at uJ | skip)
     (first | simp only [add_plain] at uK | skip)
     (first | simp only [add_plain] at uL | skip)
     obtain ⟨ce85, hcl85, hM85, hcc85, hfr85⟩ := Kd.N_elem bO.1 z56 (aT : Int) UU V1
     obtain ⟨ua85_1, uc85_1, ua85_2, uc85_2, rfl, V5, U3, V6, U4⟩ := k56_openF hM85
     have UN : World.cell? _ ⟨m7, (aT : Int).toNat * 3, none⟩ = some (.string ((rd_T56 aZ aT).f0)) := hcc85 0 _ rfl
     have UO : World.cell? _ ⟨m7, (aT : Int).toNat * 3 + 1, none⟩ = some (.slice ua85_1 ((rd_T56 aZ aT).f1).length uc85_1) := hcc85 1 _ rfl
     have UP : World.cell? _ ⟨m7, (aT : Int).toNat * 3 + 2, none⟩ = some (.slice ua85_2 ((rd_T56 aZ aT).f2).length uc85_2) := hcc85 2 _ rfl
     have hf85_0 : World.frozen? _ ⟨m7, (aT : Int).toNat * 3, none⟩ = false := hfr85 0
     have hf85_1 : World.frozen? _ ⟨m7, (aT : Int).toNat * 3 + 1, none⟩ = false := hfr85 1
     have hf85_2 : World.frozen? _ ⟨m7, (aT : Int).toNat * 3 + 2, none⟩ = false := hfr85 2
     clear hcl85 hcc85 hfr85 hM85
     replace UU := eq_true UU
     replace V1 := eq_true V1
     have HX89 := am (show Kd.N k56 56 _ w.heap.size (F44 w (.slice fJ aN.length fK) l6 (.slice n5 eU.length nC) rE a6 a8 aI nE) (.slice (some ⟨m7, 0, none⟩) aZ.length JF) aZ from (Kd.N_mono (bO.1) (fun k_ hk => ⟨hk.1.1, ⟨hk.1.2.1, ⟨hk.1.2.2.1, ⟨hk.1.2.2.2.1, ⟨hk.2, ⟨hk.1.2.2.2.2.1, ⟨hk.1.2.2.2.2.2.1, ⟨hk.1.2.2.2.2.2.2.1, hk.1.2.2.2.2.2.2.2⟩⟩⟩⟩⟩⟩⟩⟩)))
     replace HX89 := am (show Kd.N k56 56 _ w.heap.size (F34 w (.slice fJ aN.length fK) l6 (.slice n5 eU.length nC) a6 a8 aI nE) (.slice (some ⟨m7, 0, none⟩) aZ.length JF) aZ from Kd.N_mono HX89.out (fun k_ hk => ⟨hk.1, ⟨hk.2.1, ⟨hk.2.2.1, ⟨hk.2.2.2.1, ⟨hk.2.2.2.2.2.1, ⟨hk.2.2.2.2.2.2.1, ⟨hk.2.2.2.2.2.2.2.1, hk.2.2.2.2.2.2.2.2⟩⟩⟩⟩⟩⟩⟩))
     obtain ⟨ce89, hcl89, hM89, hcc89, hfr89⟩ := Kd.N_elem HX89.out z56 (aT : Int) (oT) (by have h_ : (aT : Int) < ((aZ.length : Int) : Int) := oT; first | exact h_ | (have e_ := (Kd.N_reads' bO.1).1; omega) | simpa using h_)
     obtain ⟨ua89_1, uc89_1, ua89_2, uc89_2, rfl, Rq, Po, V7, U5⟩ := k56_openF hM89
     have HP89 := (Kd.N_seg HX89.out (aT : Int) (oT) (by have h_ : (aT : Int) < ((aZ.length : Int) : Int) := oT; first | exact h_ | (have e_ := (Kd.N_reads' bO.1).1; omega) | simpa using h_) (seg := [rE]) (j := 1) hcl89 hcc89 (show 2 ≤ 3 from by decide) (x' := (⟨(rd_T56 aZ aT).f0, HM, (rd_T56 aZ aT).f2⟩ : S56)) (k56_mkF1 _ _ (⟨(rd_T56 aZ aT).f0, HM, (rd_T56 aZ aT).f2⟩ : S56) (Kd.R_mono (ok' := (fun k_ => ((F34 w (.slice fJ aN.length fK) l6 (.slice n5 eU.length nC) a6 a8 aI nE)) k_ ∧ k_ ≠ m7)) (Kd.R_types (Kd.R_types (Kd.R_types (Kd.R_types (Kd.R_apart' (Kd.R_apart' (iJ.1) (Kd.N_typed aA.1) (by decide)) (Kd.N_typed bO.1) (by decide)) a3.1 (by decide)) a5.1 (by decide)) aE.1 (by decide)) fY.1 (by decide)) (fun k_ hk => ⟨⟨hk.1.1.1.1.1.1.1.1.1, ⟨hk.1.1.1.1.1.1.1.2, ⟨hk.1.1.1.1.1.2, ⟨hk.1.1.1.1.1.1.2, ⟨hk.1.1.1.2, ⟨hk.1.1.2, ⟨hk.1.2, hk.2⟩⟩⟩⟩⟩⟩⟩, fun e_ => (hk.1.1.1.1.2) (by rw [e_]; rfl)⟩)) V7 U5) (fun _ hk => hk)).1
     rw [← yA.out] at HP89
     have HQ89 := am HP89
     clear hcl89 hcc89 hfr89 hM89 HP89
     refine hK.out _ _ ⟨(blk_cell fY.1 0).trans rfl, (blk_cell fY.1 1).trans rfl, HS2_, HS3_, HS4_, (hX HB C0)⟩ (fun hHeld => ?_)
     clear hK K
     refine nM ?_
     refine pU2 14 15 ?_
     refine lN 16 none fun K hK => ?_
     refine skip_ (w1 := (Kw.setCell ⟨m7, (aT : Int).toNat * 3 + 1, none⟩ (rE))) (by rfl) rfl ?_ ?_
     skip
     ·obtain ⟨Az_, cz_, ez_⟩ := Kd.R_slice iJ.1
      subst ez_
      go_simp
      (try rfl)
     refine hK.out _ _ ?_
     clear hK K
     refine dN ?_
     try go_wp2
     go_roundg k1
     case measure => have := HK1.out; omega
     case rel => exact ⟨(wrap64 (gH + 1)), (mZ), (z7), (l6), (.slice (some ⟨m7, 0, none⟩) aZ.length JF), aQ, H', ⟨by have := HK1.out; omega⟩, ⟨by refine rR ?_; exact Kd.R_mono (Kd.R_far (p := ⟨m7, (aT : Int).toNat * 3 + 1, none⟩) (tR aM GG85) (fun _ hk => hk.2) (rE)) (fun _ hk => ⟨hk.1.1.1, hk.1.1.2⟩)⟩, ⟨by refine rN ?_; exact Kd.N_mono (Kd.N_far (p := ⟨m7, (aT : Int).toNat * 3 + 1, none⟩) (Kd.N_mono aA.1 (fun k_ hk => (⟨hk, fun e_ => hk.1.2.2.2.1 (by rw [e_]; rfl)⟩ : _ ∧ k_ ≠ m7))) (fun _ hk => hk.2) (rE)) (fun _ hk => ⟨hk.1.1.1, ⟨hk.1.1.2.1, ⟨hk.1.1.2.2.1, ⟨hk.1.1.2.2.2.1, ⟨hk.1.1.2.2.2.2.1, ⟨hk.1.1.2.2.2.2.2.1, ⟨hk.1.1.2.2.2.2.2.2.1, hk.1.1.2.2.2.2.2.2.2⟩⟩⟩⟩⟩⟩⟩)⟩, ⟨by refine rR ?_; exact Kd.R_mono (Kd.R_far (p := ⟨m7, (aT : Int).toNat * 3 + 1, none⟩) (tR dM GG85) (fun _ hk => hk.2) (rE)) (fun _ hk => ⟨hk.1.1.1, hk.1.1.2⟩)⟩, ⟨rN HQ89.out⟩, ⟨by refine rB ?_; refine blk_far ?_ (by have h_ := Kd.N_away bO.1 (fun _ hk => by first | exact hk.2.2.2.2.1 | exact hk.1.2.2.2.2.1); intro e_; exact h_ (by rw [e_]; rfl)) _; refine rB ?_; exact a3.1⟩, ⟨by refine rB ?_; refine blk_far ?_ (by have h_ := Kd.N_away bO.1 (fun _ hk => by first | exact hk.2.2.2.2.2.1 | exact hk.1.2.2.2.2.2.1); intro e_; exact h_ (by rw [e_]; rfl)) _; refine rB ?_; exact a5.1⟩, ⟨by refine rB ?_; refine blk_far ?_ (by have h_ := Kd.N_away bO.1 (fun _ hk => by first | exact hk.2.2.2.2.2.2.1 | exact hk.1.2.2.2.2.2.2.1); intro e_; exact h_ (by rw [e_]; rfl)) _; refine rB ?_; exact aE.1⟩, ⟨by refine rB ?_; refine blk_far ?_ (by have h_ := Kd.N_away bO.1 (fun _ hk => by first | exact hk.2.2.2.2.2.2.2 | exact hk.1.2.2.2.2.2.2.2); intro e_; exact h_ (by rw [e_]; rfl)) _; refine rB ?_; exact fY.1⟩, ⟨by repeat (first | (with_reducible first | exact HB.1 | apply below_alloc | apply pw_below_drewN | apply below_drew1 | refine below_set ?_ GB85.out | refine below_set ?_ cJ.1 | refine below_set ?_ eZ.1 | refine below_set ?_ sK.1 | refine below_set ?_ NK.1) | exact HB.1)⟩⟩
   ·refine cT a8 31 #[.slice QD CM.length S3, .slice QE F6.length S4] (qP a5) Try.underlying31 ?_
    exact ⟨_, _, eR, by refine rR ?_; exact Kd.R_mono (fR (fR (tR wG a5))) (fun _ hk => hk.1.1.1.1), by refine rN ?_; exact Kd.N_mono (fN (fN (Kd.N_mono FQ.1 (fun k_ hk => (⟨hk, hk.2.2.2.2.2.2.2.1⟩ : _ ∧ k_ ≠ a8))))) (fun _ hk => ⟨hk.1.1, hk.1.2.1⟩), nS⟩
   ·refine cT a8 31 #[.slice fJ aN.length fK, .slice QF mZ.length S5] (qP a5) Try.underlying31 ?_
    exact ⟨_, _, eR, mR aM a5, by refine rN ?_; exact Kd.N_mono (fN (fN (Kd.N_mono aA.1 (fun k_ hk => (⟨hk, hk.2.2.2.2.2.1⟩ : _ ∧ k_ ≠ a8))))) (fun _ hk => ⟨hk.1.1, hk.1.2.1⟩), nS⟩
   ·refine cT a8 31 #[.slice QH yK.length S7, .slice QI Cz.length S8] (qP a5) Try.underlying31 ?_
    exact ⟨_, _, eR, by refine rR ?_; exact Kd.R_mono (fR (fR (tR D1 a5))) (fun _ hk => hk.1.1.1.1), by refine rN ?_; exact Kd.N_mono (fN (fN (Kd.N_mono NN.1 (fun k_ hk => (⟨hk, hk.2.2.2.2.2.2.2.1⟩ : _ ∧ k_ ≠ a8))))) (fun _ hk => ⟨hk.1.1, hk.1.2.1⟩), nS⟩
 ·refine cT a8 31 #[.slice fJ aN.length fK, .slice n4 b9.length nB] (qP a5) Try.underlying31 ?_
  exact ⟨_, _, eR, mR aX a5, by refine rN ?_; exact Kd.N_mono (fN (fN (Kd.N_mono bV.1 (fun k_ hk => (⟨hk, hk.1.2.2.2⟩ : _ ∧ k_ ≠ a8))))) (fun _ hk => ⟨hk.1.1.1, hk.1.1.2.1⟩), cB⟩
 refine cT a8 31 #[.slice none 0 0, .slice none 0 0] Ct Try.underlying31 ?_
 exact ⟨_, _, eR, by first | exact Kd.R_nil _ _ _ _ _ | exact Kd.N_nil _ _ _ _ _ | exact Kd.V_nil _ _ _ _ _ | exact Kd.Q_nil _ _ _ _ _ | exact Kd.S_nil _ _ _ _ _, by first | exact Kd.S_nil _ _ _ _ _ | exact Kd.N_nil _ _ _ _ _ | exact Kd.V_nil _ _ _ _ _ | exact Kd.Q_nil _ _ _ _ _ | exact Kd.R_nil _ _ _ _ _, eX⟩
def spec_l5Step.f (k : Nat) (a7 : List ByteArray) (a4 : List (S56)) (a1_0 : Int) (a1_1 : ByteArray) (vS : List ByteArray) : Option (List ByteArray × (List (S56))) := if a1_0 = 1 then ((spec_ShareEnter.f k a7 a4 a1_1 vS).bind fun a => (some (a.1, a.2.1))) else (if a1_0 = 2 then ((spec_ShareAsk.f k a7 a4 a1_1 vS).bind fun b => (some (b.1, b.2.1))) else (if a1_0 = 3 then ((spec_ShareLess.f k a7 a4 a1_1 vS).bind fun c => (some (c.1, c.2.1))) else ((spec_ShareLeave.f k a7 a4 a1_1).bind fun d => (some (d.1, d.2.1)))))
theorem spec_l5Step.calls (k : Nat) (bG : Option Addr) (bH : Nat) (a7 : List ByteArray) (bL : Option Addr) (bD : Nat) (a4 : List (S56)) (a1_0 : Int) (a1_1 : ByteArray) (Q4 : Option Addr) (RR : Nat) (vS : List ByteArray) (r1 : List ByteArray) (r2 : List (S56)) (w : World) (cZ : Kd.C Kd.string w bG a7.length a7) (cX : a7.length ≤ bH) (cU : Kd.C k56 w bL a4.length a4) (cY : a4.length ≤ bD) (PN : Kd.C Kd.string w Q4 vS.length vS) (PC : vS.length ≤ RR) (h : spec_l5Step.f k a7 a4 a1_0 a1_1 vS = some (r1, r2)) :
  Calls Try.prog 130 #[.agg #[.slice bG a7.length bH, .slice bL a4.length bD], .agg #[.int .i64 a1_0, .string a1_1, .slice Q4 vS.length RR]] w fun e w' => ∃ v0_ v1_ : Value, e = .returned (.agg #[v0_, v1_]) ∧ Kd.R Kd.string 9 w' w.heap.size (fun k_ => (w.heap.size ≤ k_)) v0_ r1 ∧ Kd.N k56 56 w' w.heap.size (F10 w v0_) v1_ r2 ∧ Below w.heap.size w w' := by
 have hu31 := Try.underlying31
 have hu106 := Try.underlying106
 obtain ⟨bC, bA⟩ := mZ2 cZ cX
 obtain ⟨aK, bM⟩ := mZ2 cU cY
 obtain ⟨IA, I6⟩ := mZ2 PN PC
 clear cZ cX cU cY PN PC
 have HB := am (Below.refl w.heap.size w)
 unfold spec_l5Step.f at h
 have H := h
 clear h
 refine iq H ?_ ?_ <;> clear H <;> intro c3 pG H4 H
 obtain ⟨⟨aN, b9, jQ⟩, A4, H⟩ := bd H
 dsimp only at H
 obtain ⟨rfl, rfl⟩ := sZ2 H
 repeat clear H
 have O7 := trivial
 rotate_left
 refine iq H ?_ ?_ <;> clear H <;> intro EP mF ON H
 obtain ⟨⟨aT, qM, vV⟩, WK, H⟩ := bd H
 dsimp only at H
 obtain ⟨rfl, rfl⟩ := sZ2 H
 repeat clear H
 have O8 := trivial
 rotate_left
 refine iq H ?_ ?_ <;> clear H <;> intro Ya Yb Yc H
 obtain ⟨⟨lI, lJ, HM⟩, Li, H⟩ := bd H
 dsimp only at H
 obtain ⟨rfl, rfl⟩ := sZ2 H
 repeat clear H
 have O9 := trivial
 rotate_left
 obtain ⟨⟨nY, oJ, uW⟩, Lj, H⟩ := bd H
 dsimp only at H
 obtain ⟨rfl, rfl⟩ := sZ2 H
 repeat clear H
 have OA := trivial
 rotate_left
 all_goals
  go_enter Try.func130, Try.ntmps130
  go_wp2_with (first | ((with_reducible refine gD 2 ?_); refine bX 2 #[.slice bG a7.length bH, .slice bL a4.length bD] 31 ?_; intro a6 hg fv hbox hb; have a3 := am hbox; have bR := am (hJ : w.heap.size ≤ a6); have cJ := bR; replace HB := bS cI hb; clear hb hbox hg) | ((with_reducible refine gD 3 ?_); refine bX 3 #[.int .i64 a1_0, .string a1_1, .slice Q4 vS.length RR] 106 ?_; intro a8 hg fw hbox hb; have a5 := am hbox; have eO := am (p3 : w.heap.size ≤ a8); have eZ := eO; replace HB := bS aY hb; have aU := nL aC hg; have aV := nG aC hg; replace a3 := bB aC hb; clear hb hbox hg) | ((with_reducible refine gD 4 ?_); refine bX 4 #[.slice none 0 0, .slice none 0 0] 31 ?_; intro iK hg fx hbox hb; have dQ := am hbox; have CZ := am (DT : w.heap.size ≤ iK); have sJ := CZ; replace HB := bS eX hb; have lC := nL aC hg; have gV := nG aC hg; replace a3 := bB aC hb; have GW := nL aH hg; have GX := nG aH hg; replace a5 := bB aH hb; clear hb hbox hg; have Wo := nZ2 aV aU GW GX; have Wp := cz3 a5; have Wq := nZ1 lC gV; have Wr := cz2 a3) | ((with_reducible refine gC 59 ?_); revert O7; intro O7; refine cE (some 22) Try.func59 (spec_ShareEnter.calls k _ _ a7 _ _ a4 a1_1 _ _ vS aN b9 jQ _ (pB bC) bA.1 (pB aK) bM.1 (pB IA) I6.1 A4.out) ?_; rintro e fy ⟨sG, qN, rfl, bQ, gY, hb⟩; refine ⟨_, rfl, ?_⟩; have aX := am (Kd.R_lower (Kd.R_newM (M := fun k_ => (w.heap.size ≤ k_)) (Kd.R_mono (ok' := fun k_ => True) bQ (fun _ hk_ => trivial)) (below_size mU) (fun k_ h_ => h_)) (below_size mU)); have bV := am (Kd.N_lower (Kd.N_mono (ok' := F13 w sG a6 a8 iK) gY (fun k_ hk_ => ⟨(Nat.le_trans (below_size mU) hk_.1), hk_.2, (fB aC k_ hk_.1), (fB aH k_ hk_.1), (fB yX k_ hk_.1)⟩)) (below_size mU)); replace a3 := bB aC hb; replace a5 := bB aH hb; replace dQ := bB yX hb; replace HB := bS mU hb; (try clear hb); (try clear bQ); (try clear gY); obtain ⟨AG, B0, TH⟩ := Kd.R_slice aX.1; subst TH; have Ws := cz2 a3; obtain ⟨EE, ES, TI⟩ := Kd.N_slice bV.1; subst TI; have Wt := cz2 dQ) | ((with_reducible refine gC 61 ?_); revert O8; intro O8; refine cE (some 33) Try.func61 (spec_ShareAsk.calls k _ _ a7 _ _ a4 a1_1 _ _ vS aT qM vV _ (pB bC) bA.1 (pB aK) bM.1 (pB IA) I6.1 WK.out) ?_; rintro e fz ⟨yL, Ru, rfl, bQ, gY, hb⟩; refine ⟨_, rfl, ?_⟩; have eP := am (Kd.R_lower (Kd.R_newM (M := fun k_ => (w.heap.size ≤ k_)) (Kd.R_mono (ok' := fun k_ => True) bQ (fun _ hk_ => trivial)) (below_size mU) (fun k_ h_ => h_)) (below_size mU)); have FP := am (Kd.N_lower (Kd.N_mono (ok' := F13 w yL a6 a8 iK) gY (fun k_ hk_ => ⟨(Nat.le_trans (below_size mU) hk_.1), hk_.2, (fB aC k_ hk_.1), (fB aH k_ hk_.1), (fB yX k_ hk_.1)⟩)) (below_size mU)); replace a3 := bB aC hb; replace a5 := bB aH hb; replace dQ := bB yX hb; replace HB := bS mU hb; (try clear hb); (try clear bQ); (try clear gY); obtain ⟨AH, B1, TJ⟩ := Kd.R_slice eP.1; subst TJ; have Wu := cz2 a3; obtain ⟨EF, ET, TK⟩ := Kd.N_slice FP.1; subst TK; have Wv := cz2 dQ) | ((with_reducible refine gC 49 ?_); revert O9; intro O9; refine cE (some 44) Try.func49 (spec_ShareLess.calls k _ _ a7 _ _ a4 a1_1 _ _ vS lI lJ HM _ (pB bC) bA.1 (pB aK) bM.1 (pB IA) I6.1 Li.out) ?_; rintro e ga ⟨V9, oq, rfl, bQ, gY, hb⟩; refine ⟨_, rfl, ?_⟩; have lR := am (Kd.R_lower (Kd.R_newM (M := fun k_ => (w.heap.size ≤ k_)) (Kd.R_mono (ok' := fun k_ => True) bQ (fun _ hk_ => trivial)) (below_size mU) (fun k_ h_ => h_)) (below_size mU)); have NM := am (Kd.N_lower (Kd.N_mono (ok' := F13 w V9 a6 a8 iK) gY (fun k_ hk_ => ⟨(Nat.le_trans (below_size mU) hk_.1), hk_.2, (fB aC k_ hk_.1), (fB aH k_ hk_.1), (fB yX k_ hk_.1)⟩)) (below_size mU)); replace a3 := bB aC hb; replace a5 := bB aH hb; replace dQ := bB yX hb; replace HB := bS mU hb; (try clear hb); (try clear bQ); (try clear gY); obtain ⟨AI, B9, TL⟩ := Kd.R_slice lR.1; subst TL; have Ww := cz2 a3; obtain ⟨EG, EU, TM⟩ := Kd.N_slice NM.1; subst TM; have Wx := cz2 dQ) | ((with_reducible refine gC 46 ?_); revert OA; intro OA; refine cE (some 11) Try.func46 (spec_ShareLeave.calls k _ _ a7 _ _ a4 a1_1 nY oJ uW _ (pB bC) bA.1 (pB aK) bM.1 Lj.out) ?_; rintro e gf ⟨CR, Di, rfl, bQ, gY, hb⟩; refine ⟨_, rfl, ?_⟩; have g6 := am (Kd.R_lower (Kd.R_newM (M := fun k_ => (w.heap.size ≤ k_)) (Kd.R_mono (ok' := fun k_ => True) bQ (fun _ hk_ => trivial)) (below_size mU) (fun k_ h_ => h_)) (below_size mU)); have o5 := am (Kd.N_lower (Kd.N_mono (ok' := F13 w CR a6 a8 iK) gY (fun k_ hk_ => ⟨(Nat.le_trans (below_size mU) hk_.1), hk_.2, (fB aC k_ hk_.1), (fB aH k_ hk_.1), (fB yX k_ hk_.1)⟩)) (below_size mU)); replace a3 := bB aC hb; replace a5 := bB aH hb; replace dQ := bB yX hb; replace HB := bS mU hb; (try clear hb); (try clear bQ); (try clear gY); obtain ⟨AJ, BA, TN⟩ := Kd.R_slice g6.1; subst TN; have Wy := cz2 a3; obtain ⟨EH, EV, TO⟩ := Kd.N_slice o5.1; subst TO; have Wz := cz2 dQ))
 ·refine cR iK 31 #[.slice AG aN.length B0, .slice EE b9.length ES] (by refine rB ?_; refine blk_put (cs := #[.slice AG aN.length B0, .slice none 0 0]) ?_ 1 _ rfl; refine rB ?_; refine blk_put (cs := #[.slice none 0 0, .slice none 0 0]) ?_ 0 _ rfl; refine rB ?_; refine blk_far ?_ gV.1 _; refine rB ?_; refine blk_far ?_ gV.1 _; refine rB ?_; exact dQ.1) Try.underlying31 ?_
  exact ⟨_, _, eR, by refine rR ?_; exact Kd.R_mono (fR (fR (Kd.R_far (p := ⟨a6, 1, none⟩) (Kd.R_far (p := ⟨a6, 0, none⟩) (Kd.R_types (tR aX a3) dQ.1 (by decide)) (fun _ hk => hk.1.2) (.slice AG aN.length B0)) (fun _ hk => hk.1.2) (.slice EE b9.length ES)))) (fun _ hk => hk.1.1.1), by refine rN ?_; exact Kd.N_mono (fN (fN (Kd.N_far (p := ⟨a6, 1, none⟩) (Kd.N_far (p := ⟨a6, 0, none⟩) (Kd.N_mono (Kd.N_mono bV.1 (fun k_ hk => (⟨hk, hk.2.2.1⟩ : _ ∧ k_ ≠ a6))) (fun k_ hk => (⟨hk, hk.1.2.2.2.2⟩ : _ ∧ k_ ≠ iK))) (fun _ hk => hk.1.2) (.slice AG aN.length B0)) (fun _ hk => hk.1.2) (.slice EE b9.length ES)))) (fun _ hk => ⟨hk.1.1.1, hk.1.1.2.1⟩), mU⟩
 ·refine cR iK 31 #[.slice AH aT.length B1, .slice EF qM.length ET] (by refine rB ?_; refine blk_put (cs := #[.slice AH aT.length B1, .slice none 0 0]) ?_ 1 _ rfl; refine rB ?_; refine blk_put (cs := #[.slice none 0 0, .slice none 0 0]) ?_ 0 _ rfl; refine rB ?_; refine blk_far ?_ gV.1 _; refine rB ?_; refine blk_far ?_ gV.1 _; refine rB ?_; exact dQ.1) Try.underlying31 ?_
  exact ⟨_, _, eR, by refine rR ?_; exact Kd.R_mono (fR (fR (Kd.R_far (p := ⟨a6, 1, none⟩) (Kd.R_far (p := ⟨a6, 0, none⟩) (Kd.R_types (tR eP a3) dQ.1 (by decide)) (fun _ hk => hk.1.2) (.slice AH aT.length B1)) (fun _ hk => hk.1.2) (.slice EF qM.length ET)))) (fun _ hk => hk.1.1.1), by refine rN ?_; exact Kd.N_mono (fN (fN (Kd.N_far (p := ⟨a6, 1, none⟩) (Kd.N_far (p := ⟨a6, 0, none⟩) (Kd.N_mono (Kd.N_mono FP.1 (fun k_ hk => (⟨hk, hk.2.2.1⟩ : _ ∧ k_ ≠ a6))) (fun k_ hk => (⟨hk, hk.1.2.2.2.2⟩ : _ ∧ k_ ≠ iK))) (fun _ hk => hk.1.2) (.slice AH aT.length B1)) (fun _ hk => hk.1.2) (.slice EF qM.length ET)))) (fun _ hk => ⟨hk.1.1.1, hk.1.1.2.1⟩), mU⟩
 ·refine cR iK 31 #[.slice AI lI.length B9, .slice EG lJ.length EU] (by refine rB ?_; refine blk_put (cs := #[.slice AI lI.length B9, .slice none 0 0]) ?_ 1 _ rfl; refine rB ?_; refine blk_put (cs := #[.slice none 0 0, .slice none 0 0]) ?_ 0 _ rfl; refine rB ?_; refine blk_far ?_ gV.1 _; refine rB ?_; refine blk_far ?_ gV.1 _; refine rB ?_; exact dQ.1) Try.underlying31 ?_
  exact ⟨_, _, eR, by refine rR ?_; exact Kd.R_mono (fR (fR (Kd.R_far (p := ⟨a6, 1, none⟩) (Kd.R_far (p := ⟨a6, 0, none⟩) (Kd.R_types (tR lR a3) dQ.1 (by decide)) (fun _ hk => hk.1.2) (.slice AI lI.length B9)) (fun _ hk => hk.1.2) (.slice EG lJ.length EU)))) (fun _ hk => hk.1.1.1), by refine rN ?_; exact Kd.N_mono (fN (fN (Kd.N_far (p := ⟨a6, 1, none⟩) (Kd.N_far (p := ⟨a6, 0, none⟩) (Kd.N_mono (Kd.N_mono NM.1 (fun k_ hk => (⟨hk, hk.2.2.1⟩ : _ ∧ k_ ≠ a6))) (fun k_ hk => (⟨hk, hk.1.2.2.2.2⟩ : _ ∧ k_ ≠ iK))) (fun _ hk => hk.1.2) (.slice AI lI.length B9)) (fun _ hk => hk.1.2) (.slice EG lJ.length EU)))) (fun _ hk => ⟨hk.1.1.1, hk.1.1.2.1⟩), mU⟩
 refine cR iK 31 #[.slice AJ nY.length BA, .slice EH oJ.length EV] (by refine rB ?_; refine blk_put (cs := #[.slice AJ nY.length BA, .slice none 0 0]) ?_ 1 _ rfl; refine rB ?_; refine blk_put (cs := #[.slice none 0 0, .slice none 0 0]) ?_ 0 _ rfl; refine rB ?_; refine blk_far ?_ gV.1 _; refine rB ?_; refine blk_far ?_ gV.1 _; refine rB ?_; exact dQ.1) Try.underlying31 ?_
 exact ⟨_, _, eR, by refine rR ?_; exact Kd.R_mono (fR (fR (Kd.R_far (p := ⟨a6, 1, none⟩) (Kd.R_far (p := ⟨a6, 0, none⟩) (Kd.R_types (tR g6 a3) dQ.1 (by decide)) (fun _ hk => hk.1.2) (.slice AJ nY.length BA)) (fun _ hk => hk.1.2) (.slice EH oJ.length EV)))) (fun _ hk => hk.1.1.1), by refine rN ?_; exact Kd.N_mono (fN (fN (Kd.N_far (p := ⟨a6, 1, none⟩) (Kd.N_far (p := ⟨a6, 0, none⟩) (Kd.N_mono (Kd.N_mono o5.1 (fun k_ hk => (⟨hk, hk.2.2.1⟩ : _ ∧ k_ ≠ a6))) (fun k_ hk => (⟨hk, hk.1.2.2.2.2⟩ : _ ∧ k_ ≠ iK))) (fun _ hk => hk.1.2) (.slice AJ nY.length BA)) (fun _ hk => hk.1.2) (.slice EH oJ.length EV)))) (fun _ hk => ⟨hk.1.1.1, hk.1.1.2.1⟩), mU⟩
def spec_l5Book.l0 : Nat → Int → List Int → Int → List ByteArray → List (S56) → Option (List ByteArray × (List (S56)) × Int)
 | 0, _, _, _, _, _ => none
 | k + 1, d, e, g, b, c => if d > 0 then ((spec_l5Does.f k e g b c).bind fun a => ((spec_l5Step.f k b c a.1 a.2.1 a.2.2.1).bind fun h => (spec_l5Book.l0 k (wrap64 (d - 1)) e a.2.2.2 h.1 h.2))) else (some (b, c, g))
def spec_l5Book.f (k : Nat) (aJ : List Int) (cV : Int) : Option (List ByteArray × (List (S56)) × Int) := (spec_l5Base.f k aJ cV).bind fun a => ((spec_l1Rd_pick.f k aJ a.2.2 3).bind fun b => (if b.1 = 0 then ((spec_l5Wild.f k aJ b.2 a.1 ([] : List (S56))).bind fun c => (some (c.1, c.2.1, c.2.2))) else ((spec_l1Rd_pick.f k aJ b.2 24).bind fun d => (spec_l5Book.l0 k d.1 aJ d.2 a.1 ([] : List (S56))))))
theorem spec_l5Book.calls (k : Nat) (g : Nat) (aJ : List Int) (cV : Int) (r1 : List ByteArray) (r2 : List (S56)) (r3 : Int) (w0 w : World) (hI : IsS103 w0 w g aJ cV) (hB : Below w0.heap.size w0 w) (h : spec_l5Book.f k aJ cV = some (r1, r2, r3)) :
  Calls Try.prog 119 #[.pointer (some ⟨g, 0, none⟩)] w fun e w' => ∃ v0_ v1_ : Value, e = .returned (.agg #[v0_, v1_]) ∧ Kd.R Kd.string 9 w' w.heap.size (fun k_ => (w.heap.size ≤ k_)) v0_ r1 ∧ Kd.N k56 56 w' w.heap.size (F10 w v0_) v1_ r2 ∧ IsS103 w0 w' g aJ r3 ∧ Below w0.heap.size w0 w' ∧ KeepBut w w' g none := by
 have hu31 := Try.underlying31
 have cD := am hI
 have HK := am (KeepBut.refl w g none)
 have HL := am hB.size
 clear hI
 have HW0 := am hB.size
 have HB := am hB
 clear hB
 unfold spec_l5Book.f at h
 have H := h
 clear h
 obtain ⟨⟨eB, e7, eV⟩, A2, H⟩ := bd H
 dsimp only at H
 obtain ⟨⟨jQ, aT⟩, A3, H⟩ := bd H
 dsimp only at H
 refine iq H ?_ ?_ <;> clear H <;> intro c4 jE yS H
 obtain ⟨⟨eA, eU, lI⟩, A5, H⟩ := bd H
 dsimp only at H
 obtain ⟨rfl, rfl, rfl⟩ := sZ3 H
 repeat clear H
 have G1 := trivial
 rotate_left
 obtain ⟨⟨K8, bK⟩, ig, H⟩ := bd H
 dsimp only at H
 have H' := am H
 repeat clear H
 have G2 := trivial
 rotate_left
 all_goals
  go_enter Try.func119, Try.ntmps119
  go_wp2_with (first | ((with_reducible refine gD 2 ?_); refine bX 2 #[.slice none 0 0, .slice none 0 0] 31 ?_; intro a6 hg gh hbox hb; replace HB := bS nU hb; have a3 := am hbox; have bR := am (yV : w.heap.size ≤ a6); have cJ := am (Nat.le_trans HW0.out (yV : w.heap.size ≤ a6) : w0.heap.size ≤ a6); replace HK := kU w g nV hb; have e5 := am (by rw [hg]; exact Nat.ne_of_lt (IsS103.lt (show IsS103 w0 _ g aJ cV from iY)) : g ≠ a6); have bP := am (by rw [hg]; exact Nat.ne_of_gt (IsS103.lt (show IsS103 w0 _ g aJ cV from iY)) : a6 ≠ g); replace cD := am (IsS103.below iY hb); clear hb hbox hg) | ((with_reducible refine gC 128 ?_); refine cE (some 6) Try.func128 (spec_l5Base.calls k g aJ cV eB e7 eV w0 _ (oG) (CJ) A2.out) ?_; rintro e gi ⟨vW, rfl, bQ, hi, hb, hk⟩; refine ⟨_, rfl, ?_⟩; replace a3 := kb aC hk bP; have dK := am (Kd.R_lower (Kd.R_newM (M := fun k_ => (w.heap.size ≤ k_)) bQ (kz w g vU) (fun k_ h_ => h_)) (kz w g vU)); replace HK := kT w g vU hk; replace HB := am hb; replace cD := am hi; (try clear hb); (try clear hk); (try clear hi); (try clear bQ)) | ((with_reducible refine gD 3 ?_); refine bX 3 #[.slice none 0 0, .slice none 0 0] 31 ?_; intro cK hg gj hbox hb; replace dK := RB qK hb; replace HB := bS CJ hb; have aG := am hbox; have wD := am (yU : w.heap.size ≤ cK); have wC := am (Nat.le_trans HW0.out (yU : w.heap.size ≤ cK) : w0.heap.size ≤ cK); replace HK := kU w g vU hb; have dC := nL aC hg; have dZ := nG aC hg; replace a3 := bB aC hb; have eQ := am (by rw [hg]; exact Nat.ne_of_lt (IsS103.lt (show IsS103 w0 _ g aJ eV from oG)) : g ≠ cK); have dJ := am (by rw [hg]; exact Nat.ne_of_gt (IsS103.lt (show IsS103 w0 _ g aJ eV from oG)) : cK ≠ g); replace cD := am (IsS103.below oG hb); clear hb hbox hg; obtain ⟨xZ, yF, TP⟩ := Kd.R_slice dK.1; subst TP; have Xa := nZ2 dZ dC dJ eQ; have YL := cz2 aG) | ((with_reducible refine gC 100 ?_); revert G1; intro G1; refine cQ (some 8) Try.func100 (spec_l1Rd_pick.calls k g aJ eV 3 jQ aT w0 _ (m8) (sZ) A3.out) ?_; rintro gl ⟨hi, hb, hk⟩; replace a3 := am (KeepBut.blk hk (g' := a6) (o := .cells #[.slice none 0 0, .slice none 0 0] 31 (0, 0)) K0 bP.1 (by simp)); replace dK := am (Kd.R_mono (Kd.R_keep (IsS103.apart (show IsS103 w0 _ g aJ eV from m8) (by refine rR ?_; exact (Kd.R_mono (fR (fR (tR dK aG))) (fun _ h_ => h_.1))) (by decide)) hk (fun _ h => h.2)) (fun _ h => h.1)); replace aG := am (KeepBut.blk hk (g' := cK) (o := .cells #[.slice xZ eB.length yF, .slice none 0 0] 31 (0, 0)) (qP aG) dJ.1 (by simp)); replace HK := kT w g l4 hk; replace HB := am hb; replace cD := am hi; (try clear hb); (try clear hk); (try clear hi); have Xb := cz2 aG) | ((with_reducible refine gC 129 ?_); revert G1; intro G1; refine cE (some 12) Try.func129 (spec_l5Wild.calls k g aJ aT (fun k_ => some k_ = (.slice xZ eB.length yF : Value).ownBlock) (.slice xZ eB.length yF) eB _ _ ([] : List (S56)) eA eU lI w0 _ (m8) (sZ) (Kd.R_lower (Kd.R_tight rfl dK.1) HL.out) Kd.C_kept_nil (Nat.le_refl _) rfl rfl A5.out) ?_; rintro e gm ⟨sH, DY, rfl, bQ, gY, hi, hb, hkp⟩; refine ⟨_, rfl, ?_⟩; have f9 := am (Kd.R_mono (ok' := fun k_ => (w.heap.size ≤ k_)) (Kd.R_raise (d := Kd.string) (b := w0.heap.size) (b' := w.heap.size) (fun _ _ _ _ h_ => h_) bQ (fun k_ e_ => Or.elim (bQ.1 k_ e_) (fun hs_ => (fun e_ => Kd.R_base dK.1 k_ e_.symm) hs_) (fun hn_ => Nat.le_trans (kz w g l4) hn_))) (fun k_ hk_ => Or.elim hk_ (fun hs_ => (dK.1.1 k_ (hs_).symm).1) (fun hn_ => (Nat.le_trans (kz w g l4) hn_)))); have gU := am (Kd.N_lower (Kd.N_mono (ok' := F13 w sH a6 cK g) gY (fun k_ hk_ => ⟨Or.elim hk_.1 (fun hs_ => (dK.1.1 k_ (hs_).symm).1) (fun hn_ => (Nat.le_trans (kz w g l4) hn_)), hk_.2, Or.elim hk_.1 (fun hs_ => fun e_ => (Kd.R_ne dK.1 a3.1 (by decide)) (by rw [← e_]; exact hs_)) (fun hn_ => (fB aC k_ hn_)), Or.elim hk_.1 (fun hs_ => fun e_ => (Kd.R_ne dK.1 aG.1 (by decide)) (by rw [← e_]; exact hs_)) (fun hn_ => (fB iM k_ hn_)), Or.elim hk_.1 (fun hs_ => fun e_ => (IsS103.own_ne cD.out dK.1 (by decide)) (by rw [← e_]; exact hs_)) (fun hn_ => (IsS103.fresh m8 k_ hn_))⟩)) (kz w g l4)); replace cD := am hi; replace a3 := am (blk_kept aC hkp (fun hs_ => Or.elim hs_ (fun hs_ => (fun e_ => (Kd.R_ne dK.1 a3.1 (by decide)) e_) hs_) (fun e_ => bP.1 e_))); replace aG := am (blk_kept iM hkp (fun hs_ => Or.elim hs_ (fun hs_ => (fun e_ => (Kd.R_ne dK.1 aG.1 (by decide)) e_) hs_) (fun e_ => dJ.1 e_))); replace HK := am (Kept.keepG l4 hkp (fun k_ hs_ => Or.elim hs_ (fun hs_ => (fun e_ => .inr (Kd.R_base dK.1 k_ e_.symm)) hs_) (fun e_ => .inl e_))); replace HB := am hb; clear dK; (try clear hb); (try clear hkp); (try clear bQ); (try clear gY); obtain ⟨QJ, S9, TQ⟩ := Kd.R_slice f9.1; subst TQ; have Xc := nZ1 bP e5; have Xd := cz2 a3; obtain ⟨QK, SA, TR⟩ := Kd.N_slice gU.1; subst TR) | ((with_reducible refine gC 100 ?_); revert G2; intro G2; refine cQ (some 8) Try.func100 (spec_l1Rd_pick.calls k g aJ eV 3 jQ aT w0 _ (m8) (sZ) A3.out) ?_; rintro gn ⟨hi, hb, hk⟩; replace a3 := am (KeepBut.blk hk (g' := a6) (o := .cells #[.slice none 0 0, .slice none 0 0] 31 (0, 0)) K0 bP.1 (by simp)); replace dK := am (Kd.R_mono (Kd.R_keep (IsS103.apart (show IsS103 w0 _ g aJ eV from m8) (by refine rR ?_; exact (Kd.R_mono (fR (fR (tR dK aG))) (fun _ h_ => h_.1))) (by decide)) hk (fun _ h => h.2)) (fun _ h => h.1)); replace aG := am (KeepBut.blk hk (g' := cK) (o := .cells #[.slice xZ eB.length yF, .slice none 0 0] 31 (0, 0)) (qP aG) dJ.1 (by simp)); replace HK := kT w g l4 hk; replace HB := am hb; replace cD := am hi; (try clear hb); (try clear hk); (try clear hi)) | ((with_reducible refine gC 100 ?_); revert G2; intro G2; refine cQ (some 14) Try.func100 (spec_l1Rd_pick.calls k g aJ aT 24 K8 bK w0 _ (m8) (sZ) ig.out) ?_; rintro gp ⟨hi, hb, hk⟩; replace a3 := kb aC hk bP; replace dK := iR m8 qK hk; replace aG := kb iM hk dJ; replace HK := kT w g l4 hk; replace HB := am hb; replace cD := am hi; (try clear hb); (try clear hk); (try clear hi)))
 ·refine cR a6 31 #[.slice QJ eA.length S9, .slice QK eU.length SA] (qP a3) Try.underlying31 ?_
  exact ⟨_, _, eR, mR f9 a3, by refine rN ?_; exact Kd.N_mono (fN (fN (Kd.N_mono gU.1 (fun k_ hk => (⟨hk, hk.2.2.1⟩ : _ ∧ k_ ≠ a6))))) (fun _ hk => ⟨hk.1.1, hk.1.2.1⟩), m8, sZ, l4⟩
 go_loopg [4] k (fun kq v4 w' => ∃ (dP : Int) (eT : Int) (i8 : List ByteArray) (kB : List (S56)) (xW : Value) (q4 : Value), v4 = .int .i64 dP ∧ Aside0 (spec_l5Book.l0 kq dP aJ eT i8 kB = some (r1, r2, r3)) ∧ Aside0 (kq ≤ k) ∧ Aside0 (Kd.R Kd.string 9 w' w.heap.size (fun k_ => (w.heap.size ≤ k_)) xW i8) ∧ Aside0 (Kd.N k56 56 w' w.heap.size (F13 w xW a6 cK g) q4 kB) ∧ Aside0 (w'.heap[a6]? = some (.cells #[(.slice none 0 0), (.slice none 0 0)] 31 (0, 0))) ∧ Aside0 (w'.heap[cK]? = some (.cells #[xW, q4] 31 (0, 0))) ∧ Aside0 (IsS103 w0 w' g aJ eT) ∧ Aside0 (KeepBut w w' g none) ∧ Aside0 (Below w0.heap.size w0 w'))
 case atStart => exact ⟨(K8), (bK), (eB), (([] : List (S56))), (.slice xZ eB.length yF), (.slice none 0 0), aQ, H', ⟨Nat.le_refl _⟩, ⟨by refine rR ?_; exact Kd.R_mono dK.1 (fun _ hk => hk.1)⟩, ⟨eN⟩, ⟨rB a3.1⟩, ⟨rB aG.1⟩, ⟨m8⟩, ⟨l4⟩, ⟨sZ⟩⟩
 clear H'
 try clear c4
 try clear jE
 try clear yS
 try clear YL
 obtain ⟨dP, eT, i8, kB, xW, q4, rfl, HA, HK1, aD, a9, a3, aG, cD, HK, HB⟩ := hrel
 cases gk with
 | zero => exact absurd HA.out (by simp [spec_l5Book.l0])
 | succ k1 =>
  have H := HA.out
  clear HA
  simp only [spec_l5Book.l0] at H
  by_cases OV : dP > 0
  ·rw [if_pos OV] at H
   have zS : decide (0 < dP) = true := decide_eq_true OV
   clear OV
   obtain ⟨⟨lJ, nX, nN, oI⟩, ij, H⟩ := bd H
   dsimp only at H
   obtain ⟨⟨mA, CM⟩, VJ, H⟩ := bd H
   dsimp only at H
   have H' := am H
   repeat clear H
   try go_wp2
   replace aD := RD aD
   replace a9 := ND a9
   replace a3 := BD a3
   replace aG := BD aG
   replace cD := am (IsS103.drew cD.out)
   replace HK := am (keep_drew HK.out)
   replace HB := am (below_drew1 HB.1)
   obtain ⟨L2, LY, Aj⟩ := Kd.R_slice aD.1
   (first | subst Aj | (obtain ⟨f4_, f5_⟩ := sj Aj; subst f4_; subst f5_))
   obtain ⟨ED, ER, EZ⟩ := Kd.N_slice a9.1
   (first | subst EZ | (obtain ⟨f4_, f5_⟩ := sj EZ; subst f4_; subst f5_))
   refine sT [5] 6 (uA2 aG) (fun hHeld => ?_)
   generalize wr.drew = WH at aD a9 a3 aG cD HK HB hHeld ⊢
   refine pU0 1 (some 20) ?_
   refine tK2_ 0 (some 19) ?_
   refine tK2_ 2 (some 21) ?_
   refine oM 3 (some 22) fun K hK => ?_
   refine gE Try.func121 (spec_l5Does.calls k1 g aJ eT _ _ i8 _ _ kB lJ nX nN oI w0 _ (m8) (sZ) (pC (Kd.R_reads' aD.1).2.2) ((Kd.R_reads' aD.1).2.1) (far_slice (IsS103.own_ne cD.out aD.1 (by decide))) (Kd.C_foot_ownV (base := 0) (Kd.N_V (Kd.N_mono (ok := fun k_ => (((w.heap.size ≤ k_)) ∧ (some k_ ≠ (.slice L2 i8.length LY : Value).ownBlock ∧ (k_ ≠ a6 ∧ (k_ ≠ cK ∧ k_ ≠ g))))) (rN a9.1) (fun k_ hk_ => (⟨hk_, hk_.2.2.2.2⟩ : _ ∧ k_ ≠ g)))) (fun _ h_ => h_.2)) ((Kd.N_reads' a9.1).2.1) ij.out) ?_
   rintro e NA ⟨F7, rfl, bQ, hi, hb, hk⟩
   refine ⟨_, rfl, ?_⟩
   replace a9 := am (Kd.N_mono (Kd.N_told (Kd.N_oldK (Kd.N_mono (ok := fun k_ => (((w.heap.size ≤ k_)) ∧ (some k_ ≠ (.slice L2 i8.length LY : Value).ownBlock ∧ (k_ ≠ a6 ∧ (k_ ≠ cK ∧ k_ ≠ g))))) (rN a9.1) (fun k_ hk_ => (⟨hk_, hk_.2.2.2.2⟩ : _ ∧ k_ ≠ g))) hk) (Kd.R_base bQ)) (fun _ h_ => h_.1))
   replace a3 := kb aC hk bP
   replace aG := kb iM hk dJ
   have iQ := am (Kd.R_lower (Kd.R_new' (Kd.R_newM (M := fun k_ => (w.heap.size ≤ k_)) bQ (kz w g l4) (fun k_ h_ => h_)) (Kd.R_lt gZ)) (kz w g l4))
   replace aD := am (Kd.R_mono (Kd.R_told (Kd.R_oldK (IsS103.apart (show IsS103 w0 _ g aJ eT from m8) gZ (by decide)) hk) (Kd.R_base bQ)) (fun _ h_ => h_.1))
   replace HK := kT w g l4 hk
   replace HB := am hb
   replace cD := am hi
   (try clear hb)
   (try clear hb2)
   (try clear hk)
   (try clear hi)
   (try clear bQ)
   obtain ⟨L3, H5, M6⟩ := Kd.R_slice iQ.1
   (first | subst M6 | (obtain ⟨f4_, f5_⟩ := sj M6; subst f4_; subst f5_))
   refine nK hK (uA2 aG).1 fun hHeld => ?_
   clear hK K
   refine oM 4 (some 23) fun K hK => ?_
   refine gE Try.func130 (spec_l5Step.calls k1 _ _ i8 _ _ kB lJ nX _ _ nN mA CM _ (pC (Kd.R_reads' aD.1).2.2) ((Kd.R_reads' aD.1).2.1) (pC (Kd.N_reads' a9.1).2.2) ((Kd.N_reads' a9.1).2.1) (pC (Kd.R_reads' iQ.1).2.2) ((Kd.R_reads' iQ.1).2.1) VJ.out) ?_
   rintro e PO ⟨vX, N7, rfl, bQ, gY, hb⟩
   refine ⟨_, rfl, ?_⟩
   have jM := am (Kd.R_lower (Kd.R_new' (Kd.R_new' (Kd.R_newM (M := fun k_ => (w.heap.size ≤ k_)) (Kd.R_mono (ok' := fun k_ => True) bQ (fun _ hk_ => trivial)) (kz w g l4) (fun k_ h_ => h_)) (Kd.R_lt gZ)) (Kd.R_lt (rR iQ.1))) (kz w g l4))
   have wG := am (Kd.N_lower (Kd.N_mono (ok' := F43 w vX (.slice L2 i8.length LY) (.slice ED kB.length ER) (.slice L3 nN.length H5) a6 cK g) gY (fun k_ hk_ => ⟨(Nat.le_trans (kz w g l4) hk_.1), hk_.2, (Kd.fresh' (Kd.R_lt gZ) k_ hk_.1), (Kd.fresh' (Kd.N_lt (rN a9.1)) k_ hk_.1), (Kd.fresh' (Kd.R_lt (rR iQ.1)) k_ hk_.1), (fB aC k_ hk_.1), (fB iM k_ hk_.1), (IsS103.fresh m8 k_ hk_.1)⟩)) (kz w g l4))
   replace aD := am (Kd.R_elder' gZ (Kd.R_base bQ) hb)
   replace a9 := am (Kd.N_mono (Kd.N_told (Kd.N_told (Kd.N_old (rN a9.1) hb) (Kd.R_base bQ)) (Kd.N_base gY)) (fun _ h_ => h_.1))
   replace iQ := am (Kd.R_elder' (rR iQ.1) (Kd.R_base bQ) hb)
   replace a3 := bB aC hb
   replace aG := bB iM hb
   replace HK := kU w g l4 hb
   replace HB := bS sZ hb
   replace cD := am (IsS103.below m8 hb)
   (try clear hb)
   (try clear hb2)
   (try clear hk)
   (try clear hi)
   (try clear bQ)
   (try clear gY)
   obtain ⟨Lr, Nu, Ak⟩ := Kd.R_slice jM.1
   (first | subst Ak | (obtain ⟨f4_, f5_⟩ := sj Ak; subst f4_; subst f5_))
   obtain ⟨WV, ZW, JK⟩ := Kd.N_slice wG.1
   (first | subst JK | (obtain ⟨f4_, f5_⟩ := sj JK; subst f4_; subst f5_))
   refine nK hK (uA2 aG).1 fun hHeld => ?_
   clear hK K
   refine last_ (i := 5) (N := none) (bz 6 63) rfl rfl (by kernel_rfl) (by decide) (fun K hK => ?_)
   have np : PO.cell? ⟨cK, 0, none⟩ = some (.slice L2 i8.length LY) := (blk_cell aG.1 0).trans rfl
   have Zw := blk_frozen aG.1 0
   have Jv := dC.1
   have Ia := dZ.1
   have nq : PO.cell? ⟨cK, 1, none⟩ = some (.slice ED kB.length ER) := (blk_cell aG.1 1).trans rfl
   have Zx := blk_frozen aG.1 1
   have Jw := dC.1
   have Ib := dZ.1
   refine skip_ (w1 := ?_) (by rfl) rfl ?_ ?_
   rotate_left
   ·go_simp
    rfl
   refine hK.out _ _ ?_
   clear hK K
   refine done_ (by kernel_rfl) ?_
   try go_wp2
   go_roundg k1
   case measure => have := HK1.out; omega
   case rel => exact ⟨(wrap64 (dP - 1)), (oI), (mA), (CM), (.slice Lr mA.length Nu), (.slice WV CM.length ZW), aQ, H', ⟨by have := HK1.out; omega⟩, ⟨by refine rR ?_; exact Kd.R_mono (fR (fR (tR jM aG))) (fun _ hk => hk.1.1.1.1)⟩, ⟨by refine rN ?_; exact Kd.N_mono (fN (fN (Kd.N_mono wG.1 (fun k_ hk => (⟨hk, hk.2.2.2.2.2.2.1⟩ : _ ∧ k_ ≠ cK))))) (fun _ hk => ⟨hk.1.1, ⟨hk.1.2.1, ⟨hk.1.2.2.2.2.2.1, ⟨hk.1.2.2.2.2.2.2.1, hk.1.2.2.2.2.2.2.2⟩⟩⟩⟩)⟩, ⟨qF a3 dC⟩, ⟨qP aG⟩, ⟨m8⟩, ⟨l4⟩, ⟨sZ⟩⟩
  ·rw [if_neg OV] at H
   have zS : decide (0 < dP) = false := decide_eq_false OV
   clear OV
   obtain ⟨rfl, rfl, rfl⟩ := sZ3 H
   repeat clear H
   have Et := nZ2 dZ dC dJ eQ
   have Eu := cz2 aG
   obtain ⟨Q6, JD, ST⟩ := Kd.R_slice aD.1
   subst ST
   have Uw := nZ1 bP e5
   have qr := cz2 a3
   obtain ⟨Ls, Nv, Oy⟩ := Kd.N_slice a9.1
   subst Oy
   go_wp2
   refine cR a6 31 #[.slice Q6 i8.length JD, .slice Ls kB.length Nv] (qP a3) Try.underlying31 ?_
   exact ⟨_, _, eR, mR aD a3, by refine rN ?_; exact Kd.N_mono (fN (fN (Kd.N_mono a9.1 (fun k_ hk => (⟨hk, hk.2.2.1⟩ : _ ∧ k_ ≠ a6))))) (fun _ hk => ⟨hk.1.1, hk.1.2.1⟩), m8, sZ, l4⟩
theorem sep_g1 {α : Type} {d : Kd α} {e base : Nat} {W : World} {ok : Nat → Prop} {v1 v1' v2 : Value} {xs : List α} (hs : ∀ k, v1.ownBlock = some k → v2.ownBlock ≠ some k) (hat : v1'.ownBlock = v1.ownBlock ∨ ∃ b, v1'.ownBlock = some b ∧ W.heap.size ≤ b) (h2 : d.R e W base ok v2 xs) : ∀ k, v1'.ownBlock = some k → v2.ownBlock ≠ some k := fun k e1 e2 => hat.elim (fun e => hs k (e.symm.trans e1) e2) (fun hb => by obtain ⟨b, eb, hb⟩ := hb; have h := Kd.R_lt h2 k e2; rw [eb] at e1; injection e1 with e1; omega)
theorem sep_g2 {α : Type} {d : Kd α} {e base : Nat} {W : World} {ok : Nat → Prop} {v1 v2 v2' : Value} {xs : List α} (hs : ∀ k, v1.ownBlock = some k → v2.ownBlock ≠ some k) (hat : v2'.ownBlock = v2.ownBlock ∨ ∃ b, v2'.ownBlock = some b ∧ W.heap.size ≤ b) (h1 : d.R e W base ok v1 xs) : ∀ k, v1.ownBlock = some k → v2'.ownBlock ≠ some k := fun k e1 e2 => hat.elim (fun e => hs k e1 (e.symm.trans e2)) (fun hb => by obtain ⟨b, eb, hb⟩ := hb; have h := Kd.R_lt h1 k e1; rw [eb] at e2; injection e2 with e2; omega)
def spec_l5Dec.f (a0 : Int) : Option (ByteArray) := some (strOfNums (([(wrap64 (48 + a0)) % 256] : List Int)))
theorem spec_l5Dec.calls (a0 : Int) (r : ByteArray) (w : World) (h : spec_l5Dec.f a0 = some r) :
  Calls Try.prog 131 #[.int .i64 a0] w fun e w' => e = .returned (.string r) ∧ Below w.heap.size w w' := by
 have HB := am (Below.refl w.heap.size w)
 unfold spec_l5Dec.f at h
 have H := h
 clear h
 obtain ⟨CT, qE⟩ := yv (([(wrap64 (48 + a0)) % 256] : List Int)); first | replace H := bW qE H | rw [← qE.1] at H
 obtain rfl := Option.some.inj H
 repeat clear H
 go_enter Try.func131, Try.ntmps131
 go_wp2_with (first | ((with_reducible refine gate_dst (N := 6) rfl ?_); refine Kd.R_lit (Kd.int .u8) _ 5 ?hg (N := 6) ?hd (xs := ([(wrap64 (48 + a0)) % 256] : List Int)) (inner := [.int .u8 ((wrap64 (48 + a0)) % 256)]) (ok := fun _ => True) (okp := fun _ => True) ?hr ?hp (fun _ hk => hk) trivial (Below.refl _ _) (Nat.le_refl _) (by simp) ?_; (case hd => rfl); (case hg => rfl); (case hr => first | (go_simp; done) | (go_simp; rfl)); (case hp => exact (Reps.one (show Kd.M (Kd.int .u8) _ _ _ ((wrap64 (48 + a0)) % 256) [.int .u8 ((wrap64 (48 + a0)) % 256)] from rfl) (Reps.none _ _))); intro HQ w2 Cl hb hg_ hnew_; clear hg_ hnew_; (first | rw [← qE.out] at Cl | (simp only [Int.reduceToNat] at Cl; rw [← qE.out] at Cl)); have cS := am (Kd.R_lower Cl (below_size cI)); replace HB := bS cI hb; clear hb Cl; have hcv4 := own_string (P := Try.prog) Try.underlying51 Try.underlying5 Try.underlying9 (Kd.own_of_R cS.1)))
 go_ret
 exact ⟨eR, cI⟩
theorem bnd_ne {w : World} {k g t : Nat} {cs : Array Value} (h : ∃ q, q ∈ 56 :: (k56).E ∧ ∃ cells, w.heap[k]? = some (.cells cells q (0, 0))) (hb : w.heap[g]? = some (.cells cs t (0, 0))) (ht : ∀ q ∈ 56 :: (k56).E, q ≠ t) : k ≠ g := by
 obtain ⟨q, hq, cells, hc⟩ := h
 intro e
 subst e
 rw [hb] at hc
 injection hc with hc
 injection hc with _ hc _
 exact ht q hq hc.symm
theorem isS_ne {w0 w : World} {k g : Nat} {f0 : List Int} {f1 : Int} (h : ∃ q, q ∈ 56 :: (k56).E ∧ ∃ cells, w.heap[k]? = some (.cells cells q (0, 0))) (hI : IsS103 w0 w g f0 f1) : k ≠ g := by
 obtain ⟨_, _, hg, _⟩ := hI
 exact bnd_ne h hg (by decide)
theorem isS_lt {w0 w : World} {g : Nat} {f0 : List Int} {f1 : Int} (hI : IsS103 w0 w g f0 f1) : g < w.heap.size := by
 obtain ⟨_, _, hg, _⟩ := hI
 exact blk_lt hg
theorem toN_ {w w' : World} {e : Ending} {r1 : List ByteArray} {r2 : List S56} {Q R S : Prop} (h : ∃ v0_ v1_ : Value, e = .returned (.agg #[v0_, v1_]) ∧ Kd.R Kd.string 9 w' w.heap.size (fun _ => True) v0_ r1 ∧ Kd.S k56 56 w' w.heap.size (fun k_ => some k_ ≠ (v0_ : Value).ownBlock) v1_ r2 ∧ Q ∧ R ∧ S) :
  ∃ v0_ v1_ : Value, e = .returned (.agg #[v0_, v1_]) ∧ Kd.R Kd.string 9 w' w.heap.size (fun k_ => (w.heap.size ≤ k_)) v0_ r1 ∧ Kd.N k56 56 w' w.heap.size (fun k_ => (w.heap.size ≤ k_) ∧ some k_ ≠ (v0_ : Value).ownBlock) v1_ r2 ∧ Q ∧ R ∧ S := by
 obtain ⟨v0, v1, h1, h2, h3, h4⟩ := h
 exact ⟨v0, v1, h1, Kd.R_mono (Kd.R_bound h2) (fun _ hk => hk.2.1), Kd.N_mono (Kd.S_N (Kd.S_bound h3)) (fun _ hk => ⟨hk.2.1, hk.1⟩), h4⟩
mutual
def spec_l5Spoil.j0 : Nat → Bool → List Int → Int → List ByteArray → List (S56) → Option (List ByteArray × (List (S56)) × Int)
 | 0, _, _, _, _, _ => none
 | k + 1, n, d, g, e, a => if n = true then ((spec_l1Rd_of.f k d g (([(⟨#[]⟩ : ByteArray), (⟨#[65]⟩ : ByteArray), (⟨#[97]⟩ : ByteArray), (⟨#[122, 122]⟩ : ByteArray)] : List ByteArray))).bind fun h => (if e.length < 8796093022208 then (some ((e ++ [h.1]), a, h.2)) else (none))) else ((spec_l1Rd_pick.f k d g (a.length : Int)).bind fun b => ((spec_l1Rd_pick.f k d b.2 5).bind fun c => (if c.1 = 0 then ((spec_l1Rd_of.f k d c.2 (([(⟨#[]⟩ : ByteArray), (⟨#[66]⟩ : ByteArray), (⟨#[122, 122]⟩ : ByteArray), (⟨#[97]⟩ : ByteArray)] : List ByteArray))).bind fun i => (if 0 ≤ b.1 then (if b.1 < (a.length : Int) then (some (e, (a.set (b.1 : Int).toNat (⟨i.1, (rd_T56 a b.1).f1, (rd_T56 a b.1).f2⟩ : S56)), i.2)) else (none)) else (none))) else (if c.1 = 1 then (if 0 ≤ b.1 then (if b.1 < (a.length : Int) then ((spec_l1Rd_of.f k d c.2 (([(⟨#[]⟩ : ByteArray), (⟨#[122, 122]⟩ : ByteArray), (⟨#[107, 101, 103]⟩ : ByteArray), (⟨#[119]⟩ : ByteArray)] : List ByteArray))).bind fun j => (if ((rd_T56 a b.1).f2).length < 8796093022208 then (some (e, (a.set (b.1 : Int).toNat (⟨(rd_T56 a b.1).f0, (rd_T56 a b.1).f1, (((rd_T56 a b.1).f2) ++ [j.1])⟩ : S56)), j.2)) else (none))) else (none)) else (none)) else (if c.1 = 2 then (if 0 ≤ b.1 then (if b.1 < (a.length : Int) then ((spec_l1Rd_of.f k d c.2 (([(⟨#[]⟩ : ByteArray), (⟨#[122, 122]⟩ : ByteArray), (⟨#[107, 101, 103]⟩ : ByteArray), (⟨#[119]⟩ : ByteArray)] : List ByteArray))).bind fun l => (if ((rd_T56 a b.1).f1).length < 8796093022208 then (some (e, (a.set (b.1 : Int).toNat (⟨(rd_T56 a b.1).f0, (((rd_T56 a b.1).f1) ++ [l.1]), (rd_T56 a b.1).f2⟩ : S56)), l.2)) else (none))) else (none)) else (none)) else (if c.1 = 3 then (if 0 ≤ b.1 then (if b.1 < (a.length : Int) then (if a.length < 2199023255552 then (some (e, a ++ [rd_T56 a b.1], c.2)) else (none)) else (none)) else (none)) else ((spec_l1Rd_pick.f k d c.2 2).bind fun m => (spec_l5Spoil.l0 k (wrap64 (5 + m.1)) 0 d m.2 e a))))))))
def spec_l5Spoil.l0 : Nat → Int → Int → List Int → Int → List ByteArray → List (S56) → Option (List ByteArray × (List (S56)) × Int)
 | 0, _, _, _, _, _, _ => none
 | k + 1, b, c, h, d, e, a => if (a.length : Int) < b then ((spec_l5Dec.f c).bind fun g => (if 1 + g.size ≤ 9223372036854775807 then (if a.length < 2199023255552 then (spec_l5Spoil.l0 k b (wrap64 (c + 1)) h d e (a ++ [(⟨(⟨#[122]⟩ : ByteArray) ++ g, ([] : List ByteArray), ([] : List ByteArray)⟩ : S56)])) else (none)) else (none))) else (some (e, a, d))
end
def spec_l5Spoil.f (k : Nat) (aJ : List Int) (cV : Int) (cA : List ByteArray) (eI : List (S56)) : Option (List ByteArray × (List (S56)) × Int) := (spec_l1Copy.f k cA eI).bind fun a => (if (a.2.length : Int) = 0 then (spec_l5Spoil.j0 k true aJ cV a.1 a.2) else ((spec_l1Rd_pick.f k aJ cV 4).bind fun b => (spec_l5Spoil.j0 k (b.1 == 0) aJ b.2 a.1 a.2)))
def spec_l5Spoil.T3 : Bool × List (List Nat × List Nat) := (true, [([], []), ([0], [0]), ([], []), ([], []), ([2, 3], [2, 3]), ([4], [4]), ([1, 5, 4], [1, 5]), ([0, 1, 2, 3, 4, 5, 6], []), ([7, 6, 6, 0, 1, 2, 3, 4, 5, 6], [6, 7])])
def spec_l5Spoil.B3 : List Nat := [0, 1, 0, 0, 12, 28, 63, 127, 255]
theorem spec_l5Spoil.tab3 : rtab .any (opsOf Try.f120 3) = spec_l5Spoil.T3 := by kernel_rfl
theorem spec_l5Spoil.bits3 : waitsOk spec_l5Spoil.T3.2 spec_l5Spoil.B3 = true := by kernel_rfl
def spec_l5Spoil.T11 : Bool × List (List Nat × List Nat) := (true, [([], []), ([0], [0]), ([], []), ([2], [2]), ([3], [3]), ([4], [4]), ([5], [5]), ([1, 6, 3], [1, 6]), ([0, 1, 2, 3, 4, 5, 6, 7], []), ([8, 7, 7, 0, 1, 2, 3, 4, 5, 6, 7], [7, 8])])
def spec_l5Spoil.B11 : List Nat := [0, 1, 0, 4, 12, 28, 60, 127, 255, 511]
theorem spec_l5Spoil.tab11 : rtab .any (opsOf Try.f120 11) = spec_l5Spoil.T11 := by kernel_rfl
theorem spec_l5Spoil.bits11 : waitsOk spec_l5Spoil.T11.2 spec_l5Spoil.B11 = true := by kernel_rfl
def spec_l5Spoil.T13 : Bool × List (List Nat × List Nat) := (true, [([], []), ([0], [0]), ([], []), ([], []), ([], []), ([3, 4], [3, 4]), ([1, 2, 0, 1, 2, 3, 4, 5], [1, 2]), ([6, 0, 1, 2, 3, 4, 5], [6]), ([7, 5, 5, 0, 1, 2, 3, 4, 5], [5, 7])])
def spec_l5Spoil.B13 : List Nat := [0, 1, 0, 0, 0, 24, 63, 127, 255]
theorem spec_l5Spoil.tab13 : rtab .any (opsOf Try.f120 13) = spec_l5Spoil.T13 := by kernel_rfl
theorem spec_l5Spoil.bits13 : waitsOk spec_l5Spoil.T13.2 spec_l5Spoil.B13 = true := by kernel_rfl
def spec_l5Spoil.T15 : Bool × List (List Nat × List Nat) := (true, [([], []), ([0], [0]), ([], []), ([], []), ([3], [3]), ([], []), ([4, 5], [4, 5]), ([6], [6]), ([7], [7]), ([], []), ([], []), ([9, 10], [9, 10]), ([11], [11]), ([8, 12, 11], [8, 12]), ([1, 2, 0, 1, 2, 3, 4, 5, 6, 7, 8, 9, 10, 11, 12, 13], [1, 2]), ([14, 0, 1, 2, 3, 4, 5, 6, 7, 8, 9, 10, 11, 12, 13], [14]), ([15, 13, 13, 0, 1, 2, 3, 4, 5, 6, 7, 8, 9, 10, 11, 12, 13], [13, 15])])
def spec_l5Spoil.B15 : List Nat := [0, 1, 0, 0, 8, 0, 56, 120, 248, 0, 0, 1536, 3584, 8184, 16383, 32767, 65535]
theorem spec_l5Spoil.tab15 : rtab .any (opsOf Try.f120 15) = spec_l5Spoil.T15 := by kernel_rfl
theorem spec_l5Spoil.bits15 : waitsOk spec_l5Spoil.T15.2 spec_l5Spoil.B15 = true := by kernel_rfl
def spec_l5Spoil.T17 : Bool × List (List Nat × List Nat) := (true, [([], []), ([0], [0]), ([], []), ([], []), ([3], [3]), ([], []), ([4, 5], [4, 5]), ([6], [6]), ([7], [7]), ([], []), ([], []), ([9, 10], [9, 10]), ([11], [11]), ([8, 12, 11], [8, 12]), ([1, 2, 0, 1, 2, 3, 4, 5, 6, 7, 8, 9, 10, 11, 12, 13], [1, 2]), ([14, 0, 1, 2, 3, 4, 5, 6, 7, 8, 9, 10, 11, 12, 13], [14]), ([15, 13, 13, 0, 1, 2, 3, 4, 5, 6, 7, 8, 9, 10, 11, 12, 13], [13, 15])])
def spec_l5Spoil.B17 : List Nat := [0, 1, 0, 0, 8, 0, 56, 120, 248, 0, 0, 1536, 3584, 8184, 16383, 32767, 65535]
theorem spec_l5Spoil.tab17 : rtab .any (opsOf Try.f120 17) = spec_l5Spoil.T17 := by kernel_rfl
theorem spec_l5Spoil.bits17 : waitsOk spec_l5Spoil.T17.2 spec_l5Spoil.B17 = true := by kernel_rfl
theorem spec_l5Spoil.calls (k : Nat) (g : Nat) (aJ : List Int) (cV : Int) (lZ : Option Addr) (nA : Nat) (cA : List ByteArray) (lQ : Option Addr) (lE : Nat) (eI : List (S56)) (r1 : List ByteArray) (r2 : List (S56)) (r3 : Int) (w0 w : World) (hI : IsS103 w0 w g aJ cV) (hB : Below w0.heap.size w0 w) (DQ : Kd.C Kd.string w lZ cA.length cA) (DL : cA.length ≤ nA) (hf1_0 : ∀ ad, lZ = some ad → 0 < cA.length → ad.block ≠ g) (wM : ∀ W_, KeepBut w W_ g none → Kd.C k56 W_ lQ eI.length eI) (yI : eI.length ≤ lE) (h : spec_l5Spoil.f k aJ cV cA eI = some (r1, r2, r3)) :
  Calls Try.prog 120 #[.pointer (some ⟨g, 0, none⟩), .agg #[.slice lZ cA.length nA, .slice lQ eI.length lE]] w fun e w' => ∃ v0_ v1_ : Value, e = .returned (.agg #[v0_, v1_]) ∧ Kd.R Kd.string 9 w' w.heap.size (fun k_ => (w.heap.size ≤ k_)) v0_ r1 ∧ Kd.N k56 56 w' w.heap.size (F10 w v0_) v1_ r2 ∧ IsS103 w0 w' g aJ r3 ∧ Below w0.heap.size w0 w' ∧ KeepBut w w' g none := by
 have hu31 := Try.underlying31
 have hu56 := Try.underlying56
 obtain ⟨D2, D0⟩ := mZ2 DQ DL
 obtain ⟨jH, I5⟩ := mZ2 wM yI
 clear DQ DL wM yI
 have cD := am hI
 have HK := am (KeepBut.refl w g none)
 have HL := am hB.size
 clear hI
 have HW0 := am hB.size
 have HB := am hB
 clear hB
 unfold spec_l5Spoil.f at h
 have H := h
 clear h
 obtain ⟨⟨bE, bT⟩, A3, H⟩ := bd H
 dsimp only at H
 have QS := am H
 clear H
 go_enter Try.func120, Try.ntmps120
 go_upto_region 2 with (first | ((with_reducible refine gD 3 ?_); refine bX 3 #[.slice lZ cA.length nA, .slice lQ eI.length lE] 31 ?_; intro a6 hg w5 hbox hb; replace HB := bS nU hb; have a3 := am hbox; have bR := am (yV : w.heap.size ≤ a6); have cJ := am (Nat.le_trans HW0.out (yV : w.heap.size ≤ a6) : w0.heap.size ≤ a6); replace HK := kU w g nV hb; have e5 := am (by rw [hg]; exact Nat.ne_of_lt (IsS103.lt (show IsS103 w0 _ g aJ cV from iY)) : g ≠ a6); have bP := am (by rw [hg]; exact Nat.ne_of_gt (IsS103.lt (show IsS103 w0 _ g aJ cV from iY)) : a6 ≠ g); replace cD := am (IsS103.below iY hb); clear hb hbox hg) | ((with_reducible refine gD 4 ?_); refine bX 4 #[.slice none 0 0, .slice none 0 0] 31 ?_; intro a8 hg w6 hbox hb; replace HB := bS CJ hb; have a5 := am hbox; have eO := am (yU : w.heap.size ≤ a8); have eZ := am (Nat.le_trans HW0.out (yU : w.heap.size ≤ a8) : w0.heap.size ≤ a8); replace HK := kU w g vU hb; have aU := nL aC hg; have aV := nG aC hg; replace a3 := bB aC hb; have eH := am (by rw [hg]; exact Nat.ne_of_lt (IsS103.lt (show IsS103 w0 _ g aJ cV from oG)) : g ≠ a8); have cW := am (by rw [hg]; exact Nat.ne_of_gt (IsS103.lt (show IsS103 w0 _ g aJ cV from oG)) : a8 ≠ g); replace cD := am (IsS103.below oG hb); clear hb hbox hg; have Z7 := nZ2 aU aV bP e5; have Z9 := cz2 a3) | ((with_reducible refine gC 89 ?_); refine cE (some 10) Try.func89 (spec_l1Copy.calls k _ _ cA _ _ eI bE bT _ (Kd.C_keep (⟨#[]⟩ : ByteArray) D2.1 pY hf1_0) D0.1 (Kd.C_foot_now jH.1 pY) I5.1 A3.out) ?_; rintro e Sc ⟨nO, V8, rfl, bQ, gY, hb⟩; refine ⟨_, rfl, ?_⟩; have eE := am (Kd.R_lower bQ (kz w g pY)); have iI := am (Kd.S_lower gY (kz w g pY)); replace a3 := bB aC hb; replace a5 := bB aH hb; replace HK := kU w g pY hb; replace HB := bS lG hb; replace cD := am (IsS103.below gM hb); (try clear hb); (try clear bQ); (try clear gY)) | ((with_reducible refine gD 5 ?_); refine bX 5 #[.slice none 0 0, .slice none 0 0] 31 ?_; intro cK hg Sf hbox hb; replace eE := RB uO hb; replace iI := am (Kd.S_below (rS iI.1) hb); replace HB := bS lG hb; have aG := am hbox; have wD := am (MY : w.heap.size ≤ cK); have wC := am (Nat.le_trans HW0.out (MY : w.heap.size ≤ cK) : w0.heap.size ≤ cK); replace HK := kU w g pY hb; have dC := nL aC hg; have dZ := nG aC hg; replace a3 := bB aC hb; have e9 := nL aH hg; have fH := nG aH hg; replace a5 := bB aH hb; have eQ := am (by rw [hg]; exact Nat.ne_of_lt (IsS103.lt (show IsS103 w0 _ g aJ cV from gM)) : g ≠ cK); have dJ := am (by rw [hg]; exact Nat.ne_of_gt (IsS103.lt (show IsS103 w0 _ g aJ cV from gM)) : cK ≠ g); replace cD := am (IsS103.below gM hb); clear hb hbox hg; obtain ⟨gI, gJ, SP⟩ := Kd.R_slice eE.1; subst SP; have OH := nZ3 dZ dC fH e9 dJ eQ; have Ep := cz2 aG; obtain ⟨yP, e6, JJ⟩ := Kd.S_slice iI.1; subst JJ))
 (try simp only [Act.put, List.setIfInBounds_toArray, List.set_cons_zero, List.set_cons_succ])
 go_cut [19] (fun pf wc => ∃ (kq : Nat) (KM : Bool) (vA : Int), pf = .bool KM ∧ Aside0 (spec_l5Spoil.j0 kq KM aJ vA bE bT = some (r1, r2, r3)) ∧ Aside0 (kq ≤ k) ∧ Aside0 (Kd.R Kd.string 9 wc w.heap.size (fun _ => True) (.slice gI bE.length gJ) bE) ∧ Aside0 (Kd.S k56 56 wc w.heap.size (fun k_ => some k_ ≠ ((.slice gI bE.length gJ) : Value).ownBlock) (.slice yP bT.length e6) bT) ∧ Aside0 (wc.heap[a6]? = some (.cells #[(.slice lZ cA.length nA), (.slice lQ eI.length lE)] 31 (0, 0))) ∧ Aside0 (wc.heap[a8]? = some (.cells #[(.slice none 0 0), (.slice none 0 0)] 31 (0, 0))) ∧ Aside0 (wc.heap[cK]? = some (.cells #[(.slice gI bE.length gJ), (.slice yP bT.length e6)] 31 (0, 0))) ∧ Aside0 (IsS103 w0 wc g aJ vA) ∧ Aside0 (KeepBut w wc g none) ∧ Aside0 (Below w0.heap.size w0 wc))
 case first =>
  have H := QS.1
  clear QS
  refine iq H ?_ ?_ <;> clear H <;> intro EP mF ON H
  ·(first | rw [mF] | (simp only [i64_w, i32_w]; rw [mF]) | skip)
   have H' := am H
   repeat clear H
   have Y9 := nZ3 dZ dC fH e9 dJ eQ
   have Mn := cz2 aG
   go_wp2
   go_meet
   exact ⟨_, (true), (cV), aQ, H', ⟨by first | omega | exact Nat.le_refl _⟩, ⟨mR eE aG⟩, ⟨mS iI aG⟩, ⟨qF a3 dC⟩, ⟨qF a5 e9⟩, ⟨qP aG⟩, ⟨fD⟩, ⟨jF⟩, ⟨lX⟩⟩
  have Xr : ¬ (bT = []) := fun h_ => EP (by rw [h_]; rfl)
  (first | rw [mF] | (simp only [i64_w, i32_w]; rw [mF]) | skip)
  obtain ⟨⟨jQ, aT⟩, yO, H⟩ := bd H
  dsimp only at H
  have H' := am H
  repeat clear H
  have Mo := nZ3 dZ dC fH e9 dJ eQ
  have Uk := cz2 aG
  go_wp2_with (first | (go_at_call 100; refine cM (spec_l1Rd_pick.calls k g aJ cV 4 jQ aT w0 _ (fD) (lX) yO.out) ?_; rintro Kr ⟨hi, hb, hk⟩; replace a3 := am (KeepBut.blk hk (g' := a6) (o := .cells #[.slice lZ cA.length nA, .slice lQ eI.length lE] 31 (0, 0)) K0 bP.1 (by simp)); replace a5 := am (KeepBut.blk hk (g' := a8) (o := .cells #[.slice none 0 0, .slice none 0 0] 31 (0, 0)) (qF a5 e9) cW.1 (by simp)); replace eE := am (Kd.R_mono (Kd.R_keep (IsS103.apart (show IsS103 w0 _ g aJ cV from fD) (by refine rR ?_; exact (Kd.R_mono (fR (fR (tR eE aG))) (fun _ h_ => h_.1))) (by decide)) hk (fun _ h => h.2)) (fun _ h => h.1)); replace iI := am (Kd.S_mono (Kd.S_keep (IsS103.apartS (show IsS103 w0 _ g aJ cV from fD) (by refine rS ?_; exact (Kd.S_mono (fS (fS (tS iI aG))) (fun _ h_ => h_.1))) (by decide)) hk (fun _ h => h.2)) (fun _ h => h.1)); replace aG := am (KeepBut.blk hk (g' := cK) (o := .cells #[.slice gI bE.length gJ, .slice yP bT.length e6] 31 (0, 0)) (qP aG) dJ.1 (by simp)); replace HK := kT w g jF hk; replace HB := am hb; replace cD := am hi; (try clear hb); (try clear hk); (try clear hi)))
  go_meet
  exact ⟨_, ((jQ == 0)), (aT), aQ, H', ⟨by first | omega | exact Nat.le_refl _⟩, ⟨rR eE.1⟩, ⟨rS iI.1⟩, ⟨rB a3.1⟩, ⟨rB a5.1⟩, ⟨rB aG.1⟩, ⟨fD⟩, ⟨jF⟩, ⟨lX⟩⟩
 clear QS
 try clear Ep
 try clear Z9
 obtain ⟨kq, KM, vA, rfl, HA, HJ3, aD, a9, a3, a5, aG, cD, HK, HB⟩ := hcut
 cases kq with
 | zero => exact absurd HA.out (by simp [spec_l5Spoil.j0])
 | succ kj3 =>
  have H := HA.out
  clear HA
  simp only [spec_l5Spoil.j0] at H
  refine tC H ?_ ?_ <;> clear H <;> intro RS H <;> subst RS
  obtain ⟨nQ, tB⟩ := yv (([(⟨#[]⟩ : ByteArray), (⟨#[65]⟩ : ByteArray), (⟨#[97]⟩ : ByteArray), (⟨#[122, 122]⟩ : ByteArray)] : List ByteArray)); first | replace H := bW tB H | rw [← tB.1] at H
  obtain ⟨⟨eU, pZ⟩, I0, H⟩ := bd H
  dsimp only at H
  obtain ⟨D3, H⟩ := cL H
  obtain ⟨E0, qY⟩ := yv (bE ++ [eU]); first | replace H := bW qY H | rw [← qY.1] at H
  obtain ⟨rfl, rfl, rfl⟩ := sZ3 H
  repeat clear H
  rotate_left
  obtain ⟨⟨bK, lJ⟩, il, H⟩ := bd H
  dsimp only at H
  obtain ⟨⟨nX, nN⟩, Lj, H⟩ := bd H
  dsimp only at H
  refine iq H ?_ ?_ <;> clear H <;> intro zT DG G8 H
  obtain ⟨vZ, y9⟩ := yv (([(⟨#[]⟩ : ByteArray), (⟨#[66]⟩ : ByteArray), (⟨#[122, 122]⟩ : ByteArray), (⟨#[97]⟩ : ByteArray)] : List ByteArray)); first | replace H := bW y9 H | rw [← y9.1] at H
  obtain ⟨⟨mA, oJ⟩, im, H⟩ := bd H
  dsimp only at H
  obtain ⟨zU, H⟩ := cN H
  obtain ⟨Yk, H⟩ := cN H
  obtain ⟨p5, qZ⟩ := yv (bT.set (bK : Int).toNat (⟨mA, (rd_T56 bT bK).f1, (rd_T56 bT bK).f2⟩ : S56)); first | replace H := bW qZ H | rw [← qZ.1] at H
  obtain ⟨rfl, rfl, rfl⟩ := sZ3 H
  repeat clear H
  have qu := nZ3 dZ dC fH e9 dJ eQ
  have Vd := cz2 aG
  have wH := trivial
  rotate_left
  refine iq H ?_ ?_ <;> clear H <;> intro mc ZH ZI H
  obtain ⟨Yx, H⟩ := cN H
  obtain ⟨Yy, H⟩ := cN H
  obtain ⟨FF, IP⟩ := yv (([(⟨#[]⟩ : ByteArray), (⟨#[122, 122]⟩ : ByteArray), (⟨#[107, 101, 103]⟩ : ByteArray), (⟨#[119]⟩ : ByteArray)] : List ByteArray)); first | replace H := bW IP H | rw [← IP.1] at H
  obtain ⟨⟨yZ, K9⟩, iy, H⟩ := bd H
  dsimp only at H
  obtain ⟨XP, H⟩ := cL H
  obtain ⟨sI, IR⟩ := yv (((rd_T56 bT bK).f2) ++ [yZ]); first | replace H := bW IR H | rw [← IR.1] at H
  obtain ⟨Sv, IS⟩ := yv (bT.set (bK : Int).toNat (⟨(rd_T56 bT bK).f0, (rd_T56 bT bK).f1, sI⟩ : S56)); first | replace H := bW IS H | rw [← IS.1] at H
  obtain ⟨rfl, rfl, rfl⟩ := sZ3 H
  repeat clear H
  have lq := nZ3 dZ dC fH e9 dJ eQ
  have lr := cz2 aG
  have wH := trivial
  rotate_left
  refine iq H ?_ ?_ <;> clear H <;> intro mi P1 ZM H
  obtain ⟨ZN, H⟩ := cN H
  obtain ⟨Mr, H⟩ := cN H
  obtain ⟨FG, IT⟩ := yv (([(⟨#[]⟩ : ByteArray), (⟨#[122, 122]⟩ : ByteArray), (⟨#[107, 101, 103]⟩ : ByteArray), (⟨#[119]⟩ : ByteArray)] : List ByteArray)); first | replace H := bW IT H | rw [← IT.1] at H
  obtain ⟨⟨N4, Db⟩, Kx, H⟩ := bd H
  dsimp only at H
  obtain ⟨QY, H⟩ := cL H
  obtain ⟨p8, zM⟩ := yv (((rd_T56 bT bK).f1) ++ [N4]); first | replace H := bW zM H | rw [← zM.1] at H
  obtain ⟨z8, zN⟩ := yv (bT.set (bK : Int).toNat (⟨(rd_T56 bT bK).f0, p8, (rd_T56 bT bK).f2⟩ : S56)); first | replace H := bW zN H | rw [← zN.1] at H
  obtain ⟨rfl, rfl, rfl⟩ := sZ3 H
  repeat clear H
  have Mi := nZ3 dZ dC fH e9 dJ eQ
  have jx := cz2 aG
  have wH := trivial
  rotate_left
  refine iq H ?_ ?_ <;> clear H <;> intro Mz RN RO H
  obtain ⟨Na, H⟩ := cN H
  obtain ⟨Nb, H⟩ := cN H
  by_cases cL : bT.length < 2199023255552
  rw [if_pos cL] at H
  have LM := am cL
  clear cL
  obtain ⟨rfl, rfl, rfl⟩ := sZ3 H
  repeat clear H
  have lq := nZ3 dZ dC fH e9 dJ eQ
  have lr := cz2 aG
  have wH := trivial
  rotate_left
  rw [if_neg cL] at H
  exact absurd H (by simp)
  obtain ⟨⟨Dc, V2⟩, Le, H⟩ := bd H
  dsimp only at H
  have H' := am H
  repeat clear H
  have Mk := nZ3 dZ dC fH e9 dJ eQ
  have Ml := cz2 aG
  have wH := trivial
  have OB := trivial
  rotate_left
  all_goals
   try go_wp2_with (first | ((with_reducible refine gC 100 ?_); revert wH; intro wH; refine cQ (some 33) Try.func100 (spec_l1Rd_pick.calls kj3 g aJ vA (bT.length : Int) bK lJ w0 _ (fD) (lX) il.out) ?_; rintro gq ⟨hi, hb, hk⟩; replace aD := iR fD gZ hk; replace a9 := iS fD oZ hk; replace a3 := kb aC hk bP; replace a5 := kb aH hk cW; replace aG := kb iM hk dJ; replace HK := kT w g jF hk; replace HB := am hb; replace cD := am hi; (try clear hb); (try clear hk); (try clear hi)) | ((with_reducible refine gC 100 ?_); revert wH; intro wH; refine cQ (some 35) Try.func100 (spec_l1Rd_pick.calls kj3 g aJ lJ 5 nX nN w0 _ (fD) (lX) Lj.out) ?_; rintro AA ⟨hi, hb, hk⟩; replace aD := iR fD gZ hk; replace a9 := iS fD oZ hk; replace a3 := kb aC hk bP; replace a5 := kb aH hk cW; replace aG := kb iM hk dJ; replace HK := kT w g jF hk; replace HB := am hb; replace cD := am hi; (try clear hb); (try clear hk); (try clear hi)) | ((with_reducible refine gC 100 ?_); revert OB; intro OB; refine cQ (some 37) Try.func100 (spec_l1Rd_pick.calls kj3 g aJ nN 2 Dc V2 w0 _ (fD) (lX) Le.out) ?_; rintro gr ⟨hi, hb, hk⟩; replace aD := iR fD gZ hk; replace a9 := iS fD oZ hk; replace a3 := kb aC hk bP; replace a5 := kb aH hk cW; replace aG := kb iM hk dJ; replace HK := kT w g jF hk; replace HB := am hb; replace cD := am hi; (try clear hb); (try clear hk); (try clear hi)))
  ·replace aD := RD aD
   replace a9 := SD a9
   replace a3 := BD a3
   replace a5 := BD a5
   replace aG := BD aG
   replace cD := am (IsS103.drew cD.out)
   replace HK := am (keep_drew HK.out)
   replace HB := am (below_drew1 HB.1)
   refine sT [8] 9 (uA2 aG) (fun hHeld => ?_)
   refine with_tabW spec_l5Spoil.tab3 spec_l5Spoil.bits3 (fun HT_ HW_ => ?_)
   generalize wc.drew = ee at aD a9 a3 a5 aG cD HK HB hHeld ⊢
   refine pU2 0 2 ?_
   refine tK2 1 (some 21) ?_
   refine oN 3 (some 23) fun K hK => ?_
   refine lT 9 23 tB ?_
   intro sH WH MI hb
   replace a9 := am (Kd.S_elder' oZ (Kd.R_base MI) hb)
   have f9 := am (Kd.R_lower (Kd.R_new' MI (Kd.R_lt gZ)) (kz w g jF))
   replace aD := am (Kd.R_elder' gZ (Kd.R_base MI) hb)
   replace a3 := bB aC hb
   replace a5 := bB aH hb
   replace aG := bB iM hb
   replace HK := kU w g jF hb
   replace HB := bS lX hb
   replace cD := am (IsS103.below fD hb)
   clear hb MI
   obtain ⟨ED, ER, EZ⟩ := Kd.R_slice f9.1
   (first | subst EZ | (obtain ⟨f4_, f5_⟩ := sj EZ; subst f4_; subst f5_))
   refine nK hK (uA2 aG).1 fun hHeld => ?_
   clear hK K
   refine oN 4 (some 24) fun K hK => ?_
   refine gQ Try.func101 (spec_l1Rd_of.calls kj3 g aJ vA _ _ nQ eU pZ w0 _ (fD) (lX) (pC (Kd.R_reads' f9.1).2.2) ((Kd.R_reads' f9.1).2.1) (far_slice (IsS103.own_ne cD.out f9.1 (by decide))) I0.out) ?_
   rintro NA ⟨hi, hb, hk⟩
   replace aD := iR fD gZ hk
   replace a9 := iS fD oZ hk
   replace a3 := kb aC hk bP
   replace a5 := kb aH hk cW
   replace aG := kb iM hk dJ
   replace f9 := iR fD (rR f9.1) hk
   replace HK := kT w g jF hk
   replace HB := am hb
   replace cD := am hi
   (try clear hb)
   (try clear hb2)
   (try clear hk)
   (try clear hi)
   refine nK hK (uA2 aG).1 fun hHeld => ?_
   clear hK K
   refine oN 5 (some 25) fun K hK => ?_
   refine value_ (w1 := ?_) (v := ?_) (by rfl) rfl ?_ ?_
   rotate_left 2
   ·go_simp
    constructor
    ·rfl
    ·rfl
   refine hK.out _ _ ⟨(blk_cell (blk_alloc aG.1 _) 0).trans rfl, (blk_cell (blk_alloc aG.1 _) 1).trans rfl⟩ (fun hHeld => ?_)
   clear hK K
   refine nM ?_
   refine oN 6 (some 26) fun K hK => ?_
   refine Kd.R_append_step Kd.string w.heap.size (by rfl) (.tmp 21) (.tmp 25) 23 9 (.string ⟨#[]⟩) 16 rfl Try.underlying23 info9 rfl (by decide) (by omega) (.slice gI bE.length gJ) bE eU [.string eU] (fun k_ => some k_ ≠ (.slice ED nQ.length ER : Value).ownBlock) (fun _ => False) rfl rfl ?aP (fun _ hk => hk.elim) ?aF ?aO (Below.refl _ _) ?aS ?aL ?_
   (case aP => exact rfl)
   (case aF => exact (fun k_ hk => Kd.fresh' (Kd.R_lt (rR f9.1)) k_ hk))
   (case aO => exact (by refine rR ?_; exact Kd.R_mono aD.1 (fun _ hk => hk.2)))
   (case aS => exact (kz w g jF))
   (case aL => have := D3.out; omega)
   intro Dg NB ho hb hg hat
   rw [← qY.out] at ho
   replace a9 := am (Kd.S_after (ok := (fun k_ => some k_ ≠ (.slice ED nQ.length ER : Value).ownBlock)) (by refine rS ?_; exact Kd.S_mono a9.1 (fun _ hk => ⟨hk.2, hk.1⟩)) hg hat)
   replace a3 := gkR aC hg aD a3
   replace a5 := gkR aH hg aD a5
   replace aG := gkR iM hg aD aG
   replace f9 := am (Kd.R_after (ok := (fun _ => True)) (rR f9.1) hg hat)
   replace HB := am (below_weaken lX HL.out hb)
   replace cD := am (IsS103.grown fD hg (IsS103.own_ne cD.out aD.1 (by decide)))
   replace HK := am (KeepBut.trans jF (KeepBut.of_grown hg g) (Kd.R_base2 aD.1))
   have mD := am ho
   clear aD
   clear ho hb hg hat
   obtain ⟨m3, m6, M7⟩ := Kd.R_slice mD.1
   (first | subst M7 | (obtain ⟨f4_, f5_⟩ := sj M7; subst f4_; subst f5_))
   refine nK hK (uA2 aG).1 fun hHeld => ?_
   clear hK K
   refine pU1 7 ?_
   refine lN 8 none fun K hK => ?_
   have nn : NB.cell? ⟨cK, 0, none⟩ = some (.slice gI bE.length gJ) := (blk_cell aG.1 0).trans rfl
   have Zv := blk_frozen aG.1 0
   have Jt := dC.1
   have Ju := e9.1
   have Hy := dZ.1
   have Hz := fH.1
   refine skip_ (w1 := ?_) (by rfl) rfl ?_ ?_
   rotate_left
   ·go_simp
    rfl
   refine hK.out _ _ ?_
   clear hK K
   refine dN ?_
   have ld := nZ3 dZ dC fH e9 dJ eQ
   have Et := cz2 aG
   have Uv := nZ2 aV aU cW eH
   have qq := cz2 a5
   try go_wp2
   refine cR a8 31 #[.slice m3 E0.length m6, .slice yP bT.length e6] (by refine rB ?_; refine blk_put (cs := #[.slice m3 E0.length m6, .slice none 0 0]) ?_ 1 _ rfl; refine rB ?_; refine blk_put (cs := #[.slice none 0 0, .slice none 0 0]) ?_ 0 _ rfl; refine rB ?_; refine blk_far ?_ e9.1 _; refine rB ?_; exact a5.1) Try.underlying31 ?_
   refine toN_ ?_
   exact ⟨_, _, eR, by refine rR ?_; exact Kd.R_mono (fR (fR (Kd.R_far (p := ⟨cK, 0, none⟩) (Kd.R_types (tR mD aG) a5.1 (by decide)) (fun _ hk => hk.1.2) (.slice m3 E0.length m6)))) (fun _ hk => trivial), by refine rS ?_; exact Kd.S_mono (fS (fS (Kd.S_far (p := ⟨cK, 0, none⟩) (Kd.S_types (tS a9 aG) a5.1 (by decide)) (fun _ hk => hk.1.2) (.slice m3 E0.length m6)))) (fun _ hk => hk.1.1.2), fD, lX, jF⟩
  ·replace aD := RD aD
   replace a9 := SD a9
   replace a3 := BD a3
   replace a5 := BD a5
   replace aG := BD aG
   replace cD := am (IsS103.drew cD.out)
   replace HK := am (keep_drew HK.out)
   replace HB := am (below_drew1 HB.1)
   refine sT [8] 9 (uA2 aG) (fun hHeld => ?_)
   refine with_tabW spec_l5Spoil.tab13 spec_l5Spoil.bits13 (fun HT_ HW_ => ?_)
   generalize AA.drew = sg at aD a9 a3 a5 aG cD HK HB hHeld ⊢
   refine pU3 0 2 3 ?_
   refine tK2 1 (some 58) ?_
   refine oN 4 (some 61) fun K hK => ?_
   refine lT 9 61 y9 ?_
   intro rE sh MJ hb
   replace a9 := am (Kd.S_elder' oZ (Kd.R_base MJ) hb)
   have iJ := am (Kd.R_lower (Kd.R_new' MJ (Kd.R_lt gZ)) (kz w g jF))
   replace aD := am (Kd.R_elder' gZ (Kd.R_base MJ) hb)
   replace a3 := bB aC hb
   replace a5 := bB aH hb
   replace aG := bB iM hb
   replace HK := kU w g jF hb
   replace HB := bS lX hb
   replace cD := am (IsS103.below fD hb)
   clear hb MJ
   obtain ⟨L4, LZ, Ar⟩ := Kd.R_slice iJ.1
   (first | subst Ar | (obtain ⟨f4_, f5_⟩ := sj Ar; subst f4_; subst f5_))
   refine nK hK (uA2 aG).1 fun hHeld => ?_
   clear hK K
   refine oN 5 (some 62) fun K hK => ?_
   refine gQ Try.func101 (spec_l1Rd_of.calls kj3 g aJ nN _ _ vZ mA oJ w0 _ (fD) (lX) (pC (Kd.R_reads' iJ.1).2.2) ((Kd.R_reads' iJ.1).2.1) (far_slice (IsS103.own_ne cD.out iJ.1 (by decide))) im.out) ?_
   rintro KH ⟨hi, hb, hk⟩
   replace aD := iR fD gZ hk
   replace a9 := iS fD oZ hk
   replace a3 := kb aC hk bP
   replace a5 := kb aH hk cW
   replace aG := kb iM hk dJ
   replace iJ := iR fD (rR iJ.1) hk
   replace HK := kT w g jF hk
   replace HB := am hb
   replace cD := am hi
   (try clear hb)
   (try clear hb2)
   (try clear hk)
   (try clear hi)
   have Qu : 0 ≤ (bK : Int) := oT
   have N3 : (bK : Int) < ((bT.length : Int) : Int) := oT
   obtain ⟨nF, mt, Ap, Ax, gl53, cl53, HG53⟩ := Kd.S_form a9.1 (by omega)
   (first | cases Ap | (injection Ap with ea_ en_ ec_; (first | subst ea_ | (injection ea_ with ea_; subst ea_)); subst ec_; clear en_))
   have GB53 := am Ax
   have GG53 := am HG53
   clear Ax gl53 HG53
   obtain ⟨_, ce53, hcl53, hM53, hcc53, hfr53, _, _⟩ := Kd.S_elem a9.1 z56 (bK : Int) Qu N3
   obtain ⟨ve53_1, ve53_2, rfl, Pi, Pj⟩ := k56_openM hM53
   have Qj : World.cell? _ ⟨nF, (bK : Int).toNat * 3, none⟩ = some (.string ((rd_T56 bT bK).f0)) := hcc53 0 _ rfl
   have Qk : World.cell? _ ⟨nF, (bK : Int).toNat * 3 + 1, none⟩ = some (ve53_1) := hcc53 1 _ rfl
   have Ql : World.cell? _ ⟨nF, (bK : Int).toNat * 3 + 2, none⟩ = some (ve53_2) := hcc53 2 _ rfl
   have hf53_0 : World.frozen? _ ⟨nF, (bK : Int).toNat * 3, none⟩ = false := hfr53 0
   have hf53_1 : World.frozen? _ ⟨nF, (bK : Int).toNat * 3 + 1, none⟩ = false := hfr53 1
   have hf53_2 : World.frozen? _ ⟨nF, (bK : Int).toNat * 3 + 2, none⟩ = false := hfr53 2
   clear hcl53 hcc53 hfr53 hM53
   replace Qu := eq_true Qu
   replace N3 := eq_true N3
   have HN0_go53 := am (show g ≠ nF from by have h_ := IsS103.own_neS cD.out a9.1 (by decide); intro e_; exact h_ (by rw [e_]; rfl))
   have HX65 := am (show Kd.S k56 56 KH w.heap.size (fun k_ => ((fun k_ => some k_ ≠ (.slice gI bE.length gJ : Value).ownBlock ∧ some k_ ≠ (.slice L4 vZ.length LZ : Value).ownBlock)) k_ ∧ ¬ (fun _ => False) k_) (.slice (some ⟨nF, 0, none⟩) bT.length e6) bT from (by refine rS ?_; exact Kd.S_mono a9.1 (fun k_ hk => ⟨⟨hk.1, hk.2⟩, fun e_ => e_⟩)))
   obtain ⟨oki65, ce65, hcl65, hM65, hcc65, hfr65, hoki65, hH65⟩ := Kd.S_elem HX65.out z56 (bK : Int) (oT) (by have h_ : (bK : Int) < ((bT.length : Int) : Int) := oT; first | exact h_ | (have e_ := (Kd.S_reads' a9.1).1; omega) | simpa using h_)
   obtain ⟨ve65_1, ve65_2, rfl, TZ, U0⟩ := k56_openM hM65
   have HP65 := (Kd.S_seg hH65 (oT) (by have h_ : (bK : Int) < ((bT.length : Int) : Int) := oT; first | exact h_ | (have e_ := (Kd.S_reads' a9.1).1; omega) | simpa using h_) (seg := [.string mA]) (j := 0) (show 1 ≤ 3 from by decide) (x' := (⟨mA, (rd_T56 bT bK).f1, (rd_T56 bT bK).f2⟩ : S56)) (k56_mkM _ _ _ (⟨mA, (rd_T56 bT bK).f1, (rd_T56 bT bK).f2⟩ : S56) TZ U0 (k56_sepM hM65)) (fun _ hk => Or.inl hk) (fun _ hk => hk.elim)).1
   rw [← qZ.out] at HP65
   have HQ65 := am HP65
   clear hcl65 hcc65 hfr65 hM65 HP65
   refine nK hK (uA2 aG).1 fun hHeld => ?_
   clear hK K
   refine pU2 6 7 ?_
   refine lN 8 none fun K hK => ?_
   refine skip_ (w1 := ?_) (by rfl) rfl ?_ ?_
   rotate_left
   ·go_simp
    rfl
   refine hK.out _ _ ?_
   clear hK K
   refine dN ?_
   have n0_ : Aside0 (Kd.R Kd.string 9 (KH.setCell ⟨nF, (bK : Int).toNat * 3, none⟩ (.string mA)) w.heap.size (fun k_ => some k_ ≠ (.slice L4 vZ.length LZ : Value).ownBlock) (.slice gI bE.length gJ) bE) := ⟨by refine rR ?_; exact Kd.R_mono (Kd.R_far (p := ⟨nF, (bK : Int).toNat * 3, none⟩) (tR aD GG53) (fun _ hk => hk.2) (.string mA)) (fun _ hk => hk.1.2)⟩
   have n1_ : Aside0 (Kd.S k56 56 (KH.setCell ⟨nF, (bK : Int).toNat * 3, none⟩ (.string mA)) w.heap.size (fun k_ => some k_ ≠ (.slice gI bE.length gJ : Value).ownBlock ∧ some k_ ≠ (.slice L4 vZ.length LZ : Value).ownBlock) (.slice (some ⟨nF, 0, none⟩) bT.length e6) p5) := ⟨rS HQ65.out⟩
   have n2_ : Aside0 (Kd.R Kd.string 9 (KH.setCell ⟨nF, (bK : Int).toNat * 3, none⟩ (.string mA)) w.heap.size (fun k_ => some k_ ≠ (.slice gI bE.length gJ : Value).ownBlock) (.slice L4 vZ.length LZ) vZ) := ⟨by refine rR ?_; exact Kd.R_mono (Kd.R_far (p := ⟨nF, (bK : Int).toNat * 3, none⟩) (tR iJ GG53) (fun _ hk => hk.2) (.string mA)) (fun _ hk => hk.1.2)⟩
   have n3_ : Aside0 ((KH.setCell ⟨nF, (bK : Int).toNat * 3, none⟩ (.string mA)).heap[a6]? = some (.cells #[.slice lZ cA.length nA, .slice lQ eI.length lE] 31 (0, 0))) := ⟨by refine rB ?_; refine blk_far ?_ (by have h_ := Kd.S_ne a9.1 a3.1 (by decide); intro e_; exact h_ (by rw [e_]; rfl)) _; refine rB ?_; exact a3.1⟩
   have n4_ : Aside0 ((KH.setCell ⟨nF, (bK : Int).toNat * 3, none⟩ (.string mA)).heap[a8]? = some (.cells #[.slice none 0 0, .slice none 0 0] 31 (0, 0))) := ⟨by refine rB ?_; refine blk_far ?_ (by have h_ := Kd.S_ne a9.1 a5.1 (by decide); intro e_; exact h_ (by rw [e_]; rfl)) _; refine rB ?_; exact a5.1⟩
   have n5_ : Aside0 ((KH.setCell ⟨nF, (bK : Int).toNat * 3, none⟩ (.string mA)).heap[cK]? = some (.cells #[.slice gI bE.length gJ, .slice (some ⟨nF, 0, none⟩) bT.length e6] 31 (0, 0))) := ⟨by refine rB ?_; refine blk_far ?_ (by have h_ := Kd.S_ne a9.1 aG.1 (by decide); intro e_; exact h_ (by rw [e_]; rfl)) _; refine rB ?_; exact aG.1⟩
   have n6_ : Aside0 (IsS103 w0 (KH.setCell ⟨nF, (bK : Int).toNat * 3, none⟩ (.string mA)) g aJ oJ) := ⟨by repeat (first | (with_reducible first | exact cD.out | apply IsS103.alloc | apply IsS103.drewN | apply IsS103.drew | apply IsS103.set_1 | refine IsS103.far ?_ HN0_go53.out _ | refine IsS103.far ?_ e5.1 _ | refine IsS103.far ?_ eH.1 _ | refine IsS103.far ?_ eQ.1 _) | exact cD.out)⟩
   have n7_ : Aside0 (KeepBut w (KH.setCell ⟨nF, (bK : Int).toNat * 3, none⟩ (.string mA)) g none) := ⟨by repeat (first | (with_reducible first | exact HK.out | apply KeepBut.set_ | apply keep_drewN | apply keep_drew | apply keep_alloc | refine keep_far ?_ GB53.out _ | refine keep_far ?_ bR.out _ | refine keep_far ?_ eO.out _ | refine keep_far ?_ wD.out _) | exact HK.out)⟩
   have n8_ : Aside0 (Below w0.heap.size w0 (KH.setCell ⟨nF, (bK : Int).toNat * 3, none⟩ (.string mA))) := ⟨by repeat (first | (with_reducible first | exact HB.1 | apply below_alloc | apply pw_below_drewN | apply below_drew1 | refine below_set ?_ (Nat.le_trans HL.out GB53.out) | refine below_set ?_ (IsS103.ge cD.out) | refine below_set ?_ cJ.1 | refine below_set ?_ eZ.1 | refine below_set ?_ wC.1) | exact HB.1)⟩
   (try clear aD)
   (try clear a9)
   (try clear iJ)
   (try clear a3)
   (try clear a5)
   (try clear aG)
   (try clear cD)
   (try clear HK)
   (try clear HB)
   generalize (KH.setCell ⟨nF, (bK : Int).toNat * 3, none⟩ (.string mA)) = sl at n0_ n1_ n2_ n3_ n4_ n5_ n6_ n7_ n8_ ⊢
   have aD := n0_
   have a9 := n1_
   have iJ := n2_
   have a3 := n3_
   have a5 := n4_
   have aG := n5_
   have cD := n6_
   have HK := n7_
   have HB := n8_
   clear n0_ n1_ n2_ n3_ n4_ n5_ n6_ n7_ n8_
   have Vx := cz2 aG
   have ra := nZ2 aV aU cW eH
   have lm := cz2 a5
   try go_wp2
   refine cR a8 31 #[.slice gI bE.length gJ, .slice (some ⟨nF, 0, none⟩) bT.length e6] (qP a5) Try.underlying31 ?_
   refine toN_ ?_
   exact ⟨_, _, eR, mR aD a5, mS a9 a5, fD, lX, jF⟩
  ·replace aD := RD aD
   replace a9 := SD a9
   replace a3 := BD a3
   replace a5 := BD a5
   replace aG := BD aG
   replace cD := am (IsS103.drew cD.out)
   replace HK := am (keep_drew HK.out)
   replace HB := am (below_drew1 HB.1)
   have CH : 0 ≤ (bK : Int) := oT
   have CL : bK < (bT.length : Int) := oT
   obtain ⟨qG, HZ, J6, AF, AY, SM, sA, mQ, mT, xN, xL, xO, xM⟩ := at_T56 (Kd.S_reads' a9.1).2.2 bK CH CL
   cases SM
   obtain ⟨ce130, hce130, hMe130, hcc130⟩ := Kd.S_get a9.1 z56 bK CH (by first | exact CL | exact oT | (have e_ := (Kd.S_reads' a9.1).1; omega))
   obtain ⟨ve130_1, ve130_2, rfl, BH, BI⟩ := k56_openM hMe130
   have u0 := hcc130 1 _ rfl
   rw [add_field _ _ 1 (by omega)] at u0
   replace u0 := Option.some.inj (u0.symm.trans mQ)
   rw [u0] at BH
   have p9 := am (show Kd.R Kd.string 9 _ _ _ _ ((rd_T56 bT bK).f1) from BH)
   clear u0 BH
   have HX130_1 := am mQ
   have u4 := hcc130 2 _ rfl
   rw [add_field _ _ 2 (by omega)] at u4
   replace u4 := Option.some.inj (u4.symm.trans mT)
   rw [u4] at BI
   have g4 := am (show Kd.R Kd.string 9 _ _ _ _ ((rd_T56 bT bK).f2) from BI)
   clear u4 BI
   have HX130_2 := am mT
   clear hcc130 hce130
   have xH := am xL
   have Eh := am xN
   clear xL xN
   have xI := am xM
   have Ei := am xO
   clear xM xO
   replace CH := eq_true CH
   replace CL := eq_true CL
   refine sT (S := fun w' => w'.cell? ⟨cK, 0, none⟩ = some (.slice gI bE.length gJ) ∧ w'.cell? ⟨cK, 1, none⟩ = some (.slice (some qG) bT.length e6) ∧ w'.cell? (qG.add ((bK).toNat * 3)) = some (.string ((rd_T56 bT bK).f0)) ∧ w'.cell? ⟨(qG.add ((bK).toNat * 3)).block, (qG.add ((bK).toNat * 3)).off + 1, none⟩ = some (.slice HZ ((rd_T56 bT bK).f1).length J6) ∧ w'.cell? ⟨(qG.add ((bK).toNat * 3)).block, (qG.add ((bK).toNat * 3)).off + 2, none⟩ = some (.slice AF ((rd_T56 bT bK).f2).length AY)) [16] 17 ⟨⟨(blk_cell aG.1 0).trans rfl, (blk_cell aG.1 1).trans rfl, sA, mQ, mT⟩⟩ (fun hHeld => ?_)
   refine with_tabW spec_l5Spoil.tab15 spec_l5Spoil.bits15 (fun HT_ HW_ => ?_)
   generalize AA.drew = Du at aD a9 a3 a5 aG cD HK HB p9 g4 xH xI HX130_1 HX130_2 sA mQ mT hHeld ⊢
   refine pU5 0 2 3 5 9 ?_
   refine tK5 1 (some 68) ?_
   refine tK5 4 (some 71) ?_
   refine pU2 6 7 ?_
   refine tK5 8 (some 75) ?_
   refine oN 10 (some 77) fun K hK => ?_
   refine lT 9 77 IP ?_
   intro VA NF HD hb
   have HS2_ := (hb.cell (World.block_lt_of_cell? _ _ (hHeld.2.2.1))).trans (hHeld.2.2.1)
   have HS3_ := (hb.cell (World.block_lt_of_cell? _ _ (hHeld.2.2.2.1))).trans (hHeld.2.2.2.1)
   have HS4_ := (hb.cell (World.block_lt_of_cell? _ _ (hHeld.2.2.2.2))).trans (hHeld.2.2.2.2)
   replace a9 := am (Kd.S_elder' oZ (Kd.R_base HD) hb)
   have kL := am (Kd.R_lower (Kd.R_new' (Kd.R_new' (Kd.R_new' HD (Kd.R_lt gZ)) (Kd.R_lt (rR p9.out))) (Kd.R_lt (rR g4.out))) (kz w g jF))
   replace aD := am (Kd.R_elder' gZ (Kd.R_base HD) hb)
   replace p9 := am (Kd.R_elder' (rR p9.out) (Kd.R_base HD) hb)
   replace g4 := am (Kd.R_elder' (rR g4.out) (Kd.R_base HD) hb)
   replace a3 := bB aC hb
   replace a5 := bB aH hb
   replace aG := bB iM hb
   replace xH := am (Kd.C_below (by repeat (first | (with_reducible exact xH.1) | (with_reducible refine Kd.C_alloc ?_ _) | (with_reducible refine Kd.C_drewN ?_ _) | (with_reducible refine Kd.C_drew ?_) | exact xH.1)) hb)
   replace HX130_1 := am (pw_cell_below hb HX130_1.out)
   replace xI := am (Kd.C_below (by repeat (first | (with_reducible exact xI.1) | (with_reducible refine Kd.C_alloc ?_ _) | (with_reducible refine Kd.C_drewN ?_ _) | (with_reducible refine Kd.C_drew ?_) | exact xI.1)) hb)
   replace HX130_2 := am (pw_cell_below hb HX130_2.out)
   replace HK := kU w g jF hb
   replace HB := bS lX hb
   replace cD := am (IsS103.below fD hb)
   clear hb HD
   obtain ⟨I3, JE, Au⟩ := Kd.R_slice kL.1
   (first | subst Au | (obtain ⟨f4_, f5_⟩ := sj Au; subst f4_; subst f5_))
   refine hK.out _ _ ⟨(blk_cell aG.1 0).trans rfl, (blk_cell aG.1 1).trans rfl, HS2_, HS3_, HS4_⟩ (fun hHeld => ?_)
   clear hK K
   refine nM ?_
   refine oN 11 (some 78) fun K hK => ?_
   refine goes_ Try.func101 (by kernel_rfl) rfl #[.pointer (some ⟨g, 0, none⟩), .slice I3 FF.length JE] (by rfl) rfl rfl sE ?_
   with_reducible refine (spec_l1Rd_of.calls kj3 g aJ nN _ _ FF yZ K9 w0 _ ?side1 ?side2 ?side3 ?side4 ?side5 iy.out).mono ?_
   (case side1 => exact fD)
   (case side2 => exact lX)
   (case side3 => exact pC (Kd.R_reads' kL.1).2.2)
   (case side4 => exact (Kd.R_reads' kL.1).2.1)
   (case side5 => exact far_slice (IsS103.own_ne cD.out kL.1 (by decide)))
   rintro e Ss ⟨rfl, hi, hb, hk⟩
   have HS2_ := keep_cell hk (hHeld.2.2.1) HG
   have HS3_ := keep_cell hk (hHeld.2.2.2.1) HG
   have HS4_ := keep_cell hk (hHeld.2.2.2.2) HG
   refine ⟨_, rfl, ?_⟩
   replace aD := iR fD gZ hk
   replace a3 := kb aC hk bP
   replace a5 := kb aH hk cW
   replace aG := kb iM hk dJ
   replace p9 := am (Kd.R_mono (Kd.R_keep (IsS103.apart (show IsS103 w0 _ g aJ nN from fD) (rR p9.out) (by decide)) hk (fun _ h => h.2)) (fun _ h => h.1))
   replace HX130_1 := am (keep_cell hk HX130_1.out MX)
   replace g4 := am (Kd.R_mono (Kd.R_keep (IsS103.apart (show IsS103 w0 _ g aJ nN from fD) (rR g4.out) (by decide)) hk (fun _ h => h.2)) (fun _ h => h.1))
   replace HX130_2 := am (keep_cell hk HX130_2.out MX)
   replace a9 := iS fD oZ hk
   replace kL := iR fD (rR kL.1) hk
   replace HK := kT w g jF hk
   replace HB := am hb
   replace cD := am hi
   (try clear hb)
   (try clear hb2)
   (try clear hk)
   (try clear hi)
   obtain ⟨oX, SF, H8, Az, gl88, cl88, HG88⟩ := Kd.S_form a9.1 (by have h_ : (bK : Int) < ((bT.length : Int) : Int) := oT; have h2_ : 0 ≤ (bK : Int) := (oT); omega)
   (first | cases H8 | (injection H8 with ea_ en_ ec_; (first | subst ea_ | (injection ea_ with ea_; subst ea_)); subst ec_; clear en_))
   have GB88 := am Az
   have GG88 := am HG88
   clear Az gl88 HG88
   (first | simp only [add_plain] at sA | skip)
   (first | simp only [add_plain] at mQ | skip)
   (first | simp only [add_plain] at mT | skip)
   obtain ⟨oki88, ce88, hcl88, hM88, hcc88, _, _, hH88⟩ := Kd.S_elem a9.1 z56 (bK : Int) (oT) (by have h_ : (bK : Int) < ((bT.length : Int) : Int) := oT; first | exact h_ | (have e_ := (Kd.S_reads' a9.1).1; omega) | simpa using h_)
   obtain ⟨ve88_1, ve88_2, rfl, JO, JP⟩ := k56_openM hM88
   have Cn := k56_sepM hM88
   clear hM88
   have MK := hcc88 2 _ rfl
   have hX88 := HX130_2.out
   (try simp only [add_plain] at hX88)
   (try simp only [Nat.add_zero] at MK)
   replace MK := Option.some.inj (MK.symm.trans hX88)
   subst MK
   clear hX88 hcc88 hcl88
   have UU88 := am (show Kd.R Kd.string 9 _ w.heap.size oki88 (.slice AF ((rd_T56 bT bK).f2).length AY) ((rd_T56 bT bK).f2) from JP)
   have HH88 := am hH88
   have HN88 := am (Kd.S_reads' a9.1).1
   have HE88_1 := am JO
   have HSp88 := am Cn
   clear Cn
   clear hH88 JO JP
   refine hK.out _ _ ⟨(blk_cell aG.1 0).trans rfl, (blk_cell aG.1 1).trans rfl, HS2_, HS3_, HS4_⟩ (fun hHeld => ?_)
   clear hK K
   refine nM ?_
   refine oN 12 (some 79) fun K hK => ?_
   refine value_ (w1 := ?_) (v := ?_) (by rfl) rfl ?_ ?_
   rotate_left 2
   ·go_simp
    constructor
    ·rfl
    ·rfl
   refine hK.out _ _ ⟨(blk_cell (blk_alloc aG.1 _) 0).trans rfl, (blk_cell (blk_alloc aG.1 _) 1).trans rfl, (World.cell?_alloc_lt _ _ _ (World.block_lt_of_cell? _ _ (hHeld.2.2.1))).trans (hHeld.2.2.1), (World.cell?_alloc_lt _ _ _ (World.block_lt_of_cell? _ _ (hHeld.2.2.2.1))).trans (hHeld.2.2.2.1), (World.cell?_alloc_lt _ _ _ (World.block_lt_of_cell? _ _ (hHeld.2.2.2.2))).trans (hHeld.2.2.2.2)⟩ (fun hHeld => ?_)
   clear hK K
   refine nM ?_
   refine oN 13 (some 80) fun K hK => ?_
   refine Kd.R_append_step Kd.string w.heap.size (by rfl) (.tmp 75) (.tmp 79) 23 9 (.string ⟨#[]⟩) 16 rfl Try.underlying23 info9 rfl (by decide) (by omega) (.slice AF ((rd_T56 bT bK).f2).length AY) ((rd_T56 bT bK).f2) yZ [.string yZ] (fun k_ => oki88 k_ ∨ ((fun k_ => some k_ ≠ (.slice gI bE.length gJ : Value).ownBlock ∧ some k_ ≠ (.slice I3 FF.length JE : Value).ownBlock)) k_ ∧ Ss.heap.size ≤ k_) (fun _ => False) rfl rfl ?aP (fun _ hk => hk.elim) ?aF ?aO (Below.refl _ _) ?aS ?aL ?_
   (case aP => exact rfl)
   (case aF => exact (fun k_ hk => .inr ⟨⟨Kd.fresh' (Kd.R_lt gZ) k_ hk, Kd.fresh' (Kd.R_lt (rR kL.1)) k_ hk⟩, hk⟩))
   (case aO => exact (by refine rR ?_; exact Kd.R_mono UU88.out (fun _ hk => .inl hk)))
   (case aS => exact (kz w g jF))
   (case aL => have := XP.out; omega)
   intro Dj KI ho hb hg hat
   (first | have HS2_ := cell_grown hg (hHeld.2.2.1) HH | have HS2_ := cell_grown hg (cell_unalloc (hHeld.2.2.1) HJ) HH)
   (first | have HS3_ := cell_grown hg (hHeld.2.2.2.1) HH | have HS3_ := cell_grown hg (cell_unalloc (hHeld.2.2.2.1) HJ) HH)
   (first | have HS4_ := cell_grown hg (hHeld.2.2.2.2) HH | have HS4_ := cell_grown hg (cell_unalloc (hHeld.2.2.2.2) HJ) HH)
   rw [← IR.out] at ho
   have n0_ := am (Kd.R_grown2 gZ rfl hg (fun k_ e_ => (g4.out.1 k_ e_).1.1))
   have n1_ := gkR aC hg g4 a3
   have n2_ := gkR aH hg g4 a5
   have n3_ := gkR iM hg g4 aG
   have n4_ := am (IsS103.grown fD hg (IsS103.own_ne cD.out g4.out (by decide)))
   have n5_ := am (Kd.R_grown2 (rR kL.1) rfl hg (fun k_ e_ => (g4.out.1 k_ e_).2))
   have n6_ := am (below_weaken lX HL.out hb)
   have n7_ := am (KeepBut.trans jF (KeepBut.of_grown hg g) (Kd.R_base2 g4.out))
   have n8_ := am (Kd.H_grown (Kd.H_widen (by repeat (first | exact HH88.out | refine Kd.H_alloc ?_ _ | refine Kd.H_drewN ?_ _ | refine Kd.H_drew ?_))) hg (fun k_ e_ => .inl (UU88.out.1 k_ e_)))
   have n9_ := am (Kd.R_grown2 (rR HE88_1.out) rfl hg (fun k_ e_ => fun e2_ => HSp88.out k_ e2_.symm e_))
   have n10_ := am (sep_g2 HSp88.out hat (rR HE88_1.out))
   have n11_ := am ho
   clear aD
   clear a3
   clear a5
   clear aG
   clear cD
   clear kL
   clear HB
   clear HK
   clear HH88
   clear HE88_1
   clear HSp88
   clear a9
   clear UU88
   clear p9
   clear g4
   have aD := n0_
   have a3 := n1_
   have a5 := n2_
   have aG := n3_
   have cD := n4_
   have kL := n5_
   have HB := n6_
   have HK := n7_
   have HH88 := n8_
   have HE88_1 := n9_
   have HSp88 := n10_
   have D1 := n11_
   clear n0_ n1_ n2_ n3_ n4_ n5_ n6_ n7_ n8_ n9_ n10_ n11_
   clear ho hb hg hat
   have df : 0 ≤ (bK : Int) := oT
   have WF : (bK : Int) < ((bT.length : Int) : Int) := oT
   replace df := eq_true df
   replace WF := eq_true WF
   obtain ⟨t1, tH, MC⟩ := Kd.R_slice D1.1
   (first | subst MC | (obtain ⟨f4_, f5_⟩ := sj MC; subst f4_; subst f5_))
   obtain ⟨_, _, hraw90, _, _, hcc90, _⟩ := Kd.H_raw HH88.out (oT) (by have h_ : (bK : Int) < ((bT.length : Int) : Int) := oT; first | exact h_ | (have e_ := (HN88.out); omega) | simpa using h_)
   obtain ⟨_, hfr90⟩ := Kd.H_at HH88.out (oT) (by have h_ : (bK : Int) < ((bT.length : Int) : Int) := oT; first | exact h_ | (have e_ := (HN88.out); omega) | simpa using h_)
   have UQ := hcc90 2 _ rfl
   have hf90_0 := hfr90 2
   (try rw [show (k56).sz = 3 from rfl] at UQ)
   (try rw [show (k56).sz = 3 from rfl] at hf90_0)
   have HP90 := Kd.S_seg0 HH88.out (oT) (by have h_ : (bK : Int) < ((bT.length : Int) : Int) := oT; first | exact h_ | (have e_ := (HN88.out); omega) | simpa using h_) (seg := [.slice t1 sI.length tH]) (j := 2) (show 3 ≤ 3 from by decide) (x' := (⟨(rd_T56 bT bK).f0, (rd_T56 bT bK).f1, sI⟩ : S56)) (k56_mkM _ _ _ (⟨(rd_T56 bT bK).f0, (rd_T56 bT bK).f1, sI⟩ : S56) (Kd.R_mono HE88_1.out (fun _ h_ => .inl h_)) D1.1 HSp88.out) (fun _ hk => hk)
   clear hcc90 hfr90
   have HN0_go88 := am (show g ≠ oX from by have h_ := IsS103.own_ne cD.out hraw90 (by decide); intro e_; exact h_ (by rw [e_]; rfl))
   have HNB101_go88 := am (show a6 ≠ oX from by have h_ := Kd.R_ne hraw90 a3.1 (by decide); intro e_; exact h_ (by rw [e_]; rfl))
   have HNB102_go88 := am (show a8 ≠ oX from by have h_ := Kd.R_ne hraw90 a5.1 (by decide); intro e_; exact h_ (by rw [e_]; rfl))
   have HNB109_go88 := am (show cK ≠ oX from by have h_ := Kd.R_ne hraw90 aG.1 (by decide); intro e_; exact h_ (by rw [e_]; rfl))
   have HS90 := HP90.1
   rw [← IS.out] at HS90
   have HQ90 := am HS90
   obtain ⟨_, hgg90⟩ := Kd.R_typed hraw90 oX rfl
   have GG90_ := am hgg90
   clear HP90 HS90 hgg90
   refine hK.out _ _ ⟨(blk_cell aG.1 0).trans rfl, (blk_cell aG.1 1).trans rfl, HS2_, HS3_, HS4_⟩ (fun hHeld => ?_)
   clear hK K
   refine nM ?_
   refine pU2 14 15 ?_
   refine lN 16 none fun K hK => ?_
   refine skip_ (w1 := ?_) (by rfl) rfl ?_ ?_
   rotate_left
   ·go_simp
    rfl
   refine hK.out _ _ ?_
   clear hK K
   refine dN ?_
   have n0_ : Aside0 (Kd.R Kd.string 9 (KI.setCell ⟨oX, (bK : Int).toNat * 3 + 2, none⟩ (.slice t1 sI.length tH)) w.heap.size (fun k_ => some k_ ≠ (.slice I3 FF.length JE : Value).ownBlock) (.slice gI bE.length gJ) bE) := ⟨by refine rR ?_; exact Kd.R_mono (Kd.R_far (p := ⟨oX, (bK : Int).toNat * 3 + 2, none⟩) (tR aD GG90_) (fun _ hk => hk.2) (.slice t1 sI.length tH)) (fun _ hk => hk.1.2)⟩
   have n1_ : Aside0 (Kd.R Kd.string 9 (KI.setCell ⟨oX, (bK : Int).toNat * 3 + 2, none⟩ (.slice t1 sI.length tH)) w.heap.size (fun k_ => some k_ ≠ (.slice gI bE.length gJ : Value).ownBlock) (.slice I3 FF.length JE) FF) := ⟨by refine rR ?_; exact Kd.R_mono (Kd.R_far (p := ⟨oX, (bK : Int).toNat * 3 + 2, none⟩) (tR kL GG90_) (fun _ hk => hk.2) (.slice t1 sI.length tH)) (fun _ hk => hk.1.1.1.2)⟩
   have n2_ : Aside0 (Kd.S k56 56 (KI.setCell ⟨oX, (bK : Int).toNat * 3 + 2, none⟩ (.slice t1 sI.length tH)) w.heap.size (fun k_ => some k_ ≠ (.slice gI bE.length gJ : Value).ownBlock ∧ some k_ ≠ (.slice I3 FF.length JE : Value).ownBlock) (.slice (some ⟨oX, 0, none⟩) bT.length e6) Sv) := ⟨rS HQ90.out⟩
   have n3_ : Aside0 ((KI.setCell ⟨oX, (bK : Int).toNat * 3 + 2, none⟩ (.slice t1 sI.length tH)).heap[a6]? = some (.cells #[.slice lZ cA.length nA, .slice lQ eI.length lE] 31 (0, 0))) := ⟨by refine rB ?_; refine blk_far ?_ HNB101_go88.out _; refine rB ?_; exact a3.1⟩
   have n4_ : Aside0 ((KI.setCell ⟨oX, (bK : Int).toNat * 3 + 2, none⟩ (.slice t1 sI.length tH)).heap[a8]? = some (.cells #[.slice none 0 0, .slice none 0 0] 31 (0, 0))) := ⟨by refine rB ?_; refine blk_far ?_ HNB102_go88.out _; refine rB ?_; exact a5.1⟩
   have n5_ : Aside0 ((KI.setCell ⟨oX, (bK : Int).toNat * 3 + 2, none⟩ (.slice t1 sI.length tH)).heap[cK]? = some (.cells #[.slice gI bE.length gJ, .slice (some ⟨oX, 0, none⟩) bT.length e6] 31 (0, 0))) := ⟨by refine rB ?_; refine blk_far ?_ HNB109_go88.out _; refine rB ?_; exact aG.1⟩
   have n6_ : Aside0 (IsS103 w0 (KI.setCell ⟨oX, (bK : Int).toNat * 3 + 2, none⟩ (.slice t1 sI.length tH)) g aJ K9) := ⟨by repeat (first | (with_reducible first | exact cD.out | apply IsS103.alloc | apply IsS103.drewN | apply IsS103.drew | apply IsS103.set_1 | refine IsS103.far ?_ HN0_go88.out _ | refine IsS103.far ?_ e5.1 _ | refine IsS103.far ?_ eH.1 _ | refine IsS103.far ?_ eQ.1 _) | exact cD.out)⟩
   have n7_ : Aside0 (KeepBut w (KI.setCell ⟨oX, (bK : Int).toNat * 3 + 2, none⟩ (.slice t1 sI.length tH)) g none) := ⟨by repeat (first | (with_reducible first | exact HK.out | apply KeepBut.set_ | apply keep_drewN | apply keep_drew | apply keep_alloc | refine keep_far ?_ GB88.out _ | refine keep_far ?_ bR.out _ | refine keep_far ?_ eO.out _ | refine keep_far ?_ wD.out _) | exact HK.out)⟩
   have n8_ : Aside0 (Below w0.heap.size w0 (KI.setCell ⟨oX, (bK : Int).toNat * 3 + 2, none⟩ (.slice t1 sI.length tH))) := ⟨by repeat (first | (with_reducible first | exact HB.1 | apply below_alloc | apply pw_below_drewN | apply below_drew1 | refine below_set ?_ (Nat.le_trans HL.out GB88.out) | refine below_set ?_ (IsS103.ge cD.out) | refine below_set ?_ cJ.1 | refine below_set ?_ eZ.1 | refine below_set ?_ wC.1) | exact HB.1)⟩
   (try clear aD)
   (try clear kL)
   (try clear a9)
   (try clear a3)
   (try clear a5)
   (try clear aG)
   (try clear cD)
   (try clear HK)
   (try clear HB)
   generalize (KI.setCell ⟨oX, (bK : Int).toNat * 3 + 2, none⟩ (.slice t1 sI.length tH)) = Dv at n0_ n1_ n2_ n3_ n4_ n5_ n6_ n7_ n8_ ⊢
   have aD := n0_
   have kL := n1_
   have a9 := n2_
   have a3 := n3_
   have a5 := n4_
   have aG := n5_
   have cD := n6_
   have HK := n7_
   have HB := n8_
   clear n0_ n1_ n2_ n3_ n4_ n5_ n6_ n7_ n8_
   have lw := cz2 aG
   have lx := nZ2 aV aU cW eH
   have rn := cz2 a5
   try go_wp2
   refine cR a8 31 #[.slice gI bE.length gJ, .slice (some ⟨oX, 0, none⟩) bT.length e6] (qP a5) Try.underlying31 ?_
   refine toN_ ?_
   exact ⟨_, _, eR, mR aD a5, mS a9 a5, fD, lX, jF⟩
  ·replace aD := RD aD
   replace a9 := SD a9
   replace a3 := BD a3
   replace a5 := BD a5
   replace aG := BD aG
   replace cD := am (IsS103.drew cD.out)
   replace HK := am (keep_drew HK.out)
   replace HB := am (below_drew1 HB.1)
   have MW : 0 ≤ (bK : Int) := oT
   have N2 : bK < (bT.length : Int) := oT
   obtain ⟨zO, EA, EO, Q3, RP, Om, CF, uM, uN, GN, GH, GO, GI⟩ := at_T56 (Kd.S_reads' a9.1).2.2 bK MW N2
   cases Om
   obtain ⟨ce140, hce140, hMe140, hcc140⟩ := Kd.S_get a9.1 z56 bK MW (by first | exact N2 | exact oT | (have e_ := (Kd.S_reads' a9.1).1; omega))
   obtain ⟨ve140_1, ve140_2, rfl, BJ, BK⟩ := k56_openM hMe140
   have u9 := hcc140 1 _ rfl
   rw [add_field _ _ 1 (by omega)] at u9
   replace u9 := Option.some.inj (u9.symm.trans uM)
   rw [u9] at BJ
   have g5 := am (show Kd.R Kd.string 9 _ _ _ _ ((rd_T56 bT bK).f1) from BJ)
   clear u9 BJ
   have HX140_1 := am uM
   have uA := hcc140 2 _ rfl
   rw [add_field _ _ 2 (by omega)] at uA
   replace uA := Option.some.inj (uA.symm.trans uN)
   rw [uA] at BK
   have pA := am (show Kd.R Kd.string 9 _ _ _ _ ((rd_T56 bT bK).f2) from BK)
   clear uA BK
   have HX140_2 := am uN
   clear hcc140 hce140
   have xJ := am GH
   have Ej := am GN
   clear GH GN
   have xK := am GI
   have Ek := am GO
   clear GI GO
   replace MW := eq_true MW
   replace N2 := eq_true N2
   refine sT (S := fun w' => w'.cell? ⟨cK, 0, none⟩ = some (.slice gI bE.length gJ) ∧ w'.cell? ⟨cK, 1, none⟩ = some (.slice (some zO) bT.length e6) ∧ w'.cell? (zO.add ((bK).toNat * 3)) = some (.string ((rd_T56 bT bK).f0)) ∧ w'.cell? ⟨(zO.add ((bK).toNat * 3)).block, (zO.add ((bK).toNat * 3)).off + 1, none⟩ = some (.slice EA ((rd_T56 bT bK).f1).length EO) ∧ w'.cell? ⟨(zO.add ((bK).toNat * 3)).block, (zO.add ((bK).toNat * 3)).off + 2, none⟩ = some (.slice Q3 ((rd_T56 bT bK).f2).length RP)) [16] 17 ⟨⟨(blk_cell aG.1 0).trans rfl, (blk_cell aG.1 1).trans rfl, CF, uM, uN⟩⟩ (fun hHeld => ?_)
   refine with_tabW spec_l5Spoil.tab17 spec_l5Spoil.bits17 (fun HT_ HW_ => ?_)
   generalize AA.drew = Sg at aD a9 a3 a5 aG cD HK HB g5 pA xJ xK HX140_1 HX140_2 CF uM uN hHeld ⊢
   refine pU5 0 2 3 5 9 ?_
   refine tK5 1 (some 86) ?_
   refine tK5 4 (some 89) ?_
   refine pU2 6 7 ?_
   refine tK5 8 (some 93) ?_
   refine oN 10 (some 95) fun K hK => ?_
   refine lT 9 95 IT ?_
   intro ow pv zX hb
   have HS2_ := (hb.cell (World.block_lt_of_cell? _ _ (hHeld.2.2.1))).trans (hHeld.2.2.1)
   have HS3_ := (hb.cell (World.block_lt_of_cell? _ _ (hHeld.2.2.2.1))).trans (hHeld.2.2.2.1)
   have HS4_ := (hb.cell (World.block_lt_of_cell? _ _ (hHeld.2.2.2.2))).trans (hHeld.2.2.2.2)
   replace a9 := am (Kd.S_elder' oZ (Kd.R_base zX) hb)
   have oP := am (Kd.R_lower (Kd.R_new' (Kd.R_new' (Kd.R_new' zX (Kd.R_lt gZ)) (Kd.R_lt (rR g5.out))) (Kd.R_lt (rR pA.out))) (kz w g jF))
   replace aD := am (Kd.R_elder' gZ (Kd.R_base zX) hb)
   replace g5 := am (Kd.R_elder' (rR g5.out) (Kd.R_base zX) hb)
   replace pA := am (Kd.R_elder' (rR pA.out) (Kd.R_base zX) hb)
   replace a3 := bB aC hb
   replace a5 := bB aH hb
   replace aG := bB iM hb
   replace xJ := am (Kd.C_below (by repeat (first | (with_reducible exact xJ.1) | (with_reducible refine Kd.C_alloc ?_ _) | (with_reducible refine Kd.C_drewN ?_ _) | (with_reducible refine Kd.C_drew ?_) | exact xJ.1)) hb)
   replace HX140_1 := am (pw_cell_below hb HX140_1.out)
   replace xK := am (Kd.C_below (by repeat (first | (with_reducible exact xK.1) | (with_reducible refine Kd.C_alloc ?_ _) | (with_reducible refine Kd.C_drewN ?_ _) | (with_reducible refine Kd.C_drew ?_) | exact xK.1)) hb)
   replace HX140_2 := am (pw_cell_below hb HX140_2.out)
   replace HK := kU w g jF hb
   replace HB := bS lX hb
   replace cD := am (IsS103.below fD hb)
   clear hb zX
   obtain ⟨CW, DH, P6⟩ := Kd.R_slice oP.1
   (first | subst P6 | (obtain ⟨f4_, f5_⟩ := sj P6; subst f4_; subst f5_))
   refine hK.out _ _ ⟨(blk_cell aG.1 0).trans rfl, (blk_cell aG.1 1).trans rfl, HS2_, HS3_, HS4_⟩ (fun hHeld => ?_)
   clear hK K
   refine nM ?_
   refine oN 11 (some 96) fun K hK => ?_
   refine goes_ Try.func101 (by kernel_rfl) rfl #[.pointer (some ⟨g, 0, none⟩), .slice CW FG.length DH] (by rfl) rfl rfl sE ?_
   with_reducible refine (spec_l1Rd_of.calls kj3 g aJ nN _ _ FG N4 Db w0 _ ?side1 ?side2 ?side3 ?side4 ?side5 Kx.out).mono ?_
   (case side1 => exact fD)
   (case side2 => exact lX)
   (case side3 => exact pC (Kd.R_reads' oP.1).2.2)
   (case side4 => exact (Kd.R_reads' oP.1).2.1)
   (case side5 => exact far_slice (IsS103.own_ne cD.out oP.1 (by decide)))
   rintro e Si ⟨rfl, hi, hb, hk⟩
   have HS2_ := keep_cell hk (hHeld.2.2.1) HG
   have HS3_ := keep_cell hk (hHeld.2.2.2.1) HG
   have HS4_ := keep_cell hk (hHeld.2.2.2.2) HG
   refine ⟨_, rfl, ?_⟩
   replace aD := iR fD gZ hk
   replace a3 := kb aC hk bP
   replace a5 := kb aH hk cW
   replace aG := kb iM hk dJ
   replace g5 := am (Kd.R_mono (Kd.R_keep (IsS103.apart (show IsS103 w0 _ g aJ nN from fD) (rR g5.out) (by decide)) hk (fun _ h => h.2)) (fun _ h => h.1))
   replace HX140_1 := am (keep_cell hk HX140_1.out MX)
   replace pA := am (Kd.R_mono (Kd.R_keep (IsS103.apart (show IsS103 w0 _ g aJ nN from fD) (rR pA.out) (by decide)) hk (fun _ h => h.2)) (fun _ h => h.1))
   replace HX140_2 := am (keep_cell hk HX140_2.out MX)
   replace a9 := iS fD oZ hk
   replace oP := iR fD (rR oP.1) hk
   replace HK := kT w g jF hk
   replace HB := am hb
   replace cD := am hi
   (try clear hb)
   (try clear hb2)
   (try clear hk)
   (try clear hi)
   obtain ⟨kA, Zm, P8, PB, gl115, cl115, HG115⟩ := Kd.S_form a9.1 (by have h_ : (bK : Int) < ((bT.length : Int) : Int) := oT; have h2_ : 0 ≤ (bK : Int) := (oT); omega)
   (first | cases P8 | (injection P8 with ea_ en_ ec_; (first | subst ea_ | (injection ea_ with ea_; subst ea_)); subst ec_; clear en_))
   have GB115 := am PB
   have GG115 := am HG115
   clear PB gl115 HG115
   (first | simp only [add_plain] at CF | skip)
   (first | simp only [add_plain] at uM | skip)
   (first | simp only [add_plain] at uN | skip)
   obtain ⟨oki115, ce115, hcl115, hM115, hcc115, _, _, hH115⟩ := Kd.S_elem a9.1 z56 (bK : Int) (oT) (by have h_ : (bK : Int) < ((bT.length : Int) : Int) := oT; first | exact h_ | (have e_ := (Kd.S_reads' a9.1).1; omega) | simpa using h_)
   obtain ⟨ve115_1, ve115_2, rfl, GA, GB⟩ := k56_openM hM115
   have JX := k56_sepM hM115
   clear hM115
   have GP := hcc115 1 _ rfl
   have hX115 := HX140_1.out
   (try simp only [add_plain] at hX115)
   (try simp only [Nat.add_zero] at GP)
   replace GP := Option.some.inj (GP.symm.trans hX115)
   subst GP
   clear hX115 hcc115 hcl115
   have UU115 := am (show Kd.R Kd.string 9 _ w.heap.size oki115 (.slice EA ((rd_T56 bT bK).f1).length EO) ((rd_T56 bT bK).f1) from GA)
   have HH115 := am hH115
   have HN115 := am (Kd.S_reads' a9.1).1
   have HE115_2 := am GB
   have HSp115 := am JX
   clear JX
   clear hH115 GA GB
   refine hK.out _ _ ⟨(blk_cell aG.1 0).trans rfl, (blk_cell aG.1 1).trans rfl, HS2_, HS3_, HS4_⟩ (fun hHeld => ?_)
   clear hK K
   refine nM ?_
   refine oN 12 (some 97) fun K hK => ?_
   refine value_ (w1 := ?_) (v := ?_) (by rfl) rfl ?_ ?_
   rotate_left 2
   ·go_simp
    constructor
    ·rfl
    ·rfl
   refine hK.out _ _ ⟨(blk_cell (blk_alloc aG.1 _) 0).trans rfl, (blk_cell (blk_alloc aG.1 _) 1).trans rfl, (World.cell?_alloc_lt _ _ _ (World.block_lt_of_cell? _ _ (hHeld.2.2.1))).trans (hHeld.2.2.1), (World.cell?_alloc_lt _ _ _ (World.block_lt_of_cell? _ _ (hHeld.2.2.2.1))).trans (hHeld.2.2.2.1), (World.cell?_alloc_lt _ _ _ (World.block_lt_of_cell? _ _ (hHeld.2.2.2.2))).trans (hHeld.2.2.2.2)⟩ (fun hHeld => ?_)
   clear hK K
   refine nM ?_
   refine oN 13 (some 98) fun K hK => ?_
   refine Kd.R_append_step Kd.string w.heap.size (by rfl) (.tmp 93) (.tmp 97) 23 9 (.string ⟨#[]⟩) 16 rfl Try.underlying23 info9 rfl (by decide) (by omega) (.slice EA ((rd_T56 bT bK).f1).length EO) ((rd_T56 bT bK).f1) N4 [.string N4] (fun k_ => oki115 k_ ∨ ((fun k_ => some k_ ≠ (.slice gI bE.length gJ : Value).ownBlock ∧ some k_ ≠ (.slice CW FG.length DH : Value).ownBlock)) k_ ∧ Si.heap.size ≤ k_) (fun _ => False) rfl rfl ?aP (fun _ hk => hk.elim) ?aF ?aO (Below.refl _ _) ?aS ?aL ?_
   (case aP => exact rfl)
   (case aF => exact (fun k_ hk => .inr ⟨⟨Kd.fresh' (Kd.R_lt gZ) k_ hk, Kd.fresh' (Kd.R_lt (rR oP.1)) k_ hk⟩, hk⟩))
   (case aO => exact (by refine rR ?_; exact Kd.R_mono UU115.out (fun _ hk => .inl hk)))
   (case aS => exact (kz w g jF))
   (case aL => have := QY.out; omega)
   intro N8 z4 ho hb hg hat
   (first | have HS2_ := cell_grown hg (hHeld.2.2.1) HI | have HS2_ := cell_grown hg (cell_unalloc (hHeld.2.2.1) HJ) HI)
   (first | have HS3_ := cell_grown hg (hHeld.2.2.2.1) HI | have HS3_ := cell_grown hg (cell_unalloc (hHeld.2.2.2.1) HJ) HI)
   (first | have HS4_ := cell_grown hg (hHeld.2.2.2.2) HI | have HS4_ := cell_grown hg (cell_unalloc (hHeld.2.2.2.2) HJ) HI)
   rw [← zM.out] at ho
   have n0_ := am (Kd.R_grown2 gZ rfl hg (fun k_ e_ => (g5.out.1 k_ e_).1.1))
   have n1_ := gkR aC hg g5 a3
   have n2_ := gkR aH hg g5 a5
   have n3_ := gkR iM hg g5 aG
   have n4_ := am (IsS103.grown fD hg (IsS103.own_ne cD.out g5.out (by decide)))
   have n5_ := am (Kd.R_grown2 (rR oP.1) rfl hg (fun k_ e_ => (g5.out.1 k_ e_).2))
   have n6_ := am (below_weaken lX HL.out hb)
   have n7_ := am (KeepBut.trans jF (KeepBut.of_grown hg g) (Kd.R_base2 g5.out))
   have n8_ := am (Kd.H_grown (Kd.H_widen (by repeat (first | exact HH115.out | refine Kd.H_alloc ?_ _ | refine Kd.H_drewN ?_ _ | refine Kd.H_drew ?_))) hg (fun k_ e_ => .inl (UU115.out.1 k_ e_)))
   have n9_ := am (Kd.R_grown2 (rR HE115_2.out) rfl hg (fun k_ e_ => fun e2_ => HSp115.out k_ e_ e2_.symm))
   have n10_ := am (sep_g1 HSp115.out hat (rR HE115_2.out))
   have n11_ := am ho
   clear aD
   clear a3
   clear a5
   clear aG
   clear cD
   clear oP
   clear HB
   clear HK
   clear HH115
   clear HE115_2
   clear HSp115
   clear a9
   clear UU115
   clear g5
   clear pA
   have aD := n0_
   have a3 := n1_
   have a5 := n2_
   have aG := n3_
   have cD := n4_
   have oP := n5_
   have HB := n6_
   have HK := n7_
   have HH115 := n8_
   have HE115_2 := n9_
   have HSp115 := n10_
   have t6 := n11_
   clear n0_ n1_ n2_ n3_ n4_ n5_ n6_ n7_ n8_ n9_ n10_ n11_
   clear ho hb hg hat
   have nR : 0 ≤ (bK : Int) := oT
   have nW : (bK : Int) < ((bT.length : Int) : Int) := oT
   replace nR := eq_true nR
   replace nW := eq_true nW
   obtain ⟨oO, oW, P9⟩ := Kd.R_slice t6.1
   (first | subst P9 | (obtain ⟨f4_, f5_⟩ := sj P9; subst f4_; subst f5_))
   obtain ⟨_, _, hraw117, _, _, hcc117, _⟩ := Kd.H_raw HH115.out (oT) (by have h_ : (bK : Int) < ((bT.length : Int) : Int) := oT; first | exact h_ | (have e_ := (HN115.out); omega) | simpa using h_)
   obtain ⟨_, hfr117⟩ := Kd.H_at HH115.out (oT) (by have h_ : (bK : Int) < ((bT.length : Int) : Int) := oT; first | exact h_ | (have e_ := (HN115.out); omega) | simpa using h_)
   have xU := hcc117 1 _ rfl
   have hf117_0 := hfr117 1
   (try rw [show (k56).sz = 3 from rfl] at xU)
   (try rw [show (k56).sz = 3 from rfl] at hf117_0)
   have HP117 := Kd.S_seg0 HH115.out (oT) (by have h_ : (bK : Int) < ((bT.length : Int) : Int) := oT; first | exact h_ | (have e_ := (HN115.out); omega) | simpa using h_) (seg := [.slice oO p8.length oW]) (j := 1) (show 2 ≤ 3 from by decide) (x' := (⟨(rd_T56 bT bK).f0, p8, (rd_T56 bT bK).f2⟩ : S56)) (k56_mkM _ _ _ (⟨(rd_T56 bT bK).f0, p8, (rd_T56 bT bK).f2⟩ : S56) t6.1 (Kd.R_mono HE115_2.out (fun _ h_ => .inl h_)) HSp115.out) (fun _ hk => hk)
   clear hcc117 hfr117
   have HN0_go115 := am (show g ≠ kA from by have h_ := IsS103.own_ne cD.out hraw117 (by decide); intro e_; exact h_ (by rw [e_]; rfl))
   have HNB101_go115 := am (show a6 ≠ kA from by have h_ := Kd.R_ne hraw117 a3.1 (by decide); intro e_; exact h_ (by rw [e_]; rfl))
   have HNB102_go115 := am (show a8 ≠ kA from by have h_ := Kd.R_ne hraw117 a5.1 (by decide); intro e_; exact h_ (by rw [e_]; rfl))
   have HNB109_go115 := am (show cK ≠ kA from by have h_ := Kd.R_ne hraw117 aG.1 (by decide); intro e_; exact h_ (by rw [e_]; rfl))
   have HS117 := HP117.1
   rw [← zN.out] at HS117
   have HQ117 := am HS117
   obtain ⟨_, hgg117⟩ := Kd.R_typed hraw117 kA rfl
   have GG117_ := am hgg117
   clear HP117 HS117 hgg117
   refine hK.out _ _ ⟨(blk_cell aG.1 0).trans rfl, (blk_cell aG.1 1).trans rfl, HS2_, HS3_, HS4_⟩ (fun hHeld => ?_)
   clear hK K
   refine nM ?_
   refine pU2 14 15 ?_
   refine lN 16 none fun K hK => ?_
   refine skip_ (w1 := ?_) (by rfl) rfl ?_ ?_
   rotate_left
   ·go_simp
    rfl
   refine hK.out _ _ ?_
   clear hK K
   refine dN ?_
   have n0_ : Aside0 (Kd.R Kd.string 9 (z4.setCell ⟨kA, (bK : Int).toNat * 3 + 1, none⟩ (.slice oO p8.length oW)) w.heap.size (fun k_ => some k_ ≠ (.slice CW FG.length DH : Value).ownBlock) (.slice gI bE.length gJ) bE) := ⟨by refine rR ?_; exact Kd.R_mono (Kd.R_far (p := ⟨kA, (bK : Int).toNat * 3 + 1, none⟩) (tR aD GG117_) (fun _ hk => hk.2) (.slice oO p8.length oW)) (fun _ hk => hk.1.2)⟩
   have n1_ : Aside0 (Kd.R Kd.string 9 (z4.setCell ⟨kA, (bK : Int).toNat * 3 + 1, none⟩ (.slice oO p8.length oW)) w.heap.size (fun k_ => some k_ ≠ (.slice gI bE.length gJ : Value).ownBlock) (.slice CW FG.length DH) FG) := ⟨by refine rR ?_; exact Kd.R_mono (Kd.R_far (p := ⟨kA, (bK : Int).toNat * 3 + 1, none⟩) (tR oP GG117_) (fun _ hk => hk.2) (.slice oO p8.length oW)) (fun _ hk => hk.1.1.1.2)⟩
   have n2_ : Aside0 (Kd.S k56 56 (z4.setCell ⟨kA, (bK : Int).toNat * 3 + 1, none⟩ (.slice oO p8.length oW)) w.heap.size (fun k_ => some k_ ≠ (.slice gI bE.length gJ : Value).ownBlock ∧ some k_ ≠ (.slice CW FG.length DH : Value).ownBlock) (.slice (some ⟨kA, 0, none⟩) bT.length e6) z8) := ⟨rS HQ117.out⟩
   have n3_ : Aside0 ((z4.setCell ⟨kA, (bK : Int).toNat * 3 + 1, none⟩ (.slice oO p8.length oW)).heap[a6]? = some (.cells #[.slice lZ cA.length nA, .slice lQ eI.length lE] 31 (0, 0))) := ⟨by refine rB ?_; refine blk_far ?_ HNB101_go115.out _; refine rB ?_; exact a3.1⟩
   have n4_ : Aside0 ((z4.setCell ⟨kA, (bK : Int).toNat * 3 + 1, none⟩ (.slice oO p8.length oW)).heap[a8]? = some (.cells #[.slice none 0 0, .slice none 0 0] 31 (0, 0))) := ⟨by refine rB ?_; refine blk_far ?_ HNB102_go115.out _; refine rB ?_; exact a5.1⟩
   have n5_ : Aside0 ((z4.setCell ⟨kA, (bK : Int).toNat * 3 + 1, none⟩ (.slice oO p8.length oW)).heap[cK]? = some (.cells #[.slice gI bE.length gJ, .slice (some ⟨kA, 0, none⟩) bT.length e6] 31 (0, 0))) := ⟨by refine rB ?_; refine blk_far ?_ HNB109_go115.out _; refine rB ?_; exact aG.1⟩
   have n6_ : Aside0 (IsS103 w0 (z4.setCell ⟨kA, (bK : Int).toNat * 3 + 1, none⟩ (.slice oO p8.length oW)) g aJ Db) := ⟨by repeat (first | (with_reducible first | exact cD.out | apply IsS103.alloc | apply IsS103.drewN | apply IsS103.drew | apply IsS103.set_1 | refine IsS103.far ?_ HN0_go115.out _ | refine IsS103.far ?_ e5.1 _ | refine IsS103.far ?_ eH.1 _ | refine IsS103.far ?_ eQ.1 _) | exact cD.out)⟩
   have n7_ : Aside0 (KeepBut w (z4.setCell ⟨kA, (bK : Int).toNat * 3 + 1, none⟩ (.slice oO p8.length oW)) g none) := ⟨by repeat (first | (with_reducible first | exact HK.out | apply KeepBut.set_ | apply keep_drewN | apply keep_drew | apply keep_alloc | refine keep_far ?_ GB115.out _ | refine keep_far ?_ bR.out _ | refine keep_far ?_ eO.out _ | refine keep_far ?_ wD.out _) | exact HK.out)⟩
   have n8_ : Aside0 (Below w0.heap.size w0 (z4.setCell ⟨kA, (bK : Int).toNat * 3 + 1, none⟩ (.slice oO p8.length oW))) := ⟨by repeat (first | (with_reducible first | exact HB.1 | apply below_alloc | apply pw_below_drewN | apply below_drew1 | refine below_set ?_ (Nat.le_trans HL.out GB115.out) | refine below_set ?_ (IsS103.ge cD.out) | refine below_set ?_ cJ.1 | refine below_set ?_ eZ.1 | refine below_set ?_ wC.1) | exact HB.1)⟩
   (try clear aD)
   (try clear oP)
   (try clear a9)
   (try clear a3)
   (try clear a5)
   (try clear aG)
   (try clear cD)
   (try clear HK)
   (try clear HB)
   generalize (z4.setCell ⟨kA, (bK : Int).toNat * 3 + 1, none⟩ (.slice oO p8.length oW)) = py at n0_ n1_ n2_ n3_ n4_ n5_ n6_ n7_ n8_ ⊢
   have aD := n0_
   have oP := n1_
   have a9 := n2_
   have a3 := n3_
   have a5 := n4_
   have aG := n5_
   have cD := n6_
   have HK := n7_
   have HB := n8_
   clear n0_ n1_ n2_ n3_ n4_ n5_ n6_ n7_ n8_
   have ke := cz2 aG
   have kf := nZ2 aV aU cW eH
   have Mj := cz2 a5
   try go_wp2
   refine cR a8 31 #[.slice gI bE.length gJ, .slice (some ⟨kA, 0, none⟩) bT.length e6] (qP a5) Try.underlying31 ?_
   refine toN_ ?_
   exact ⟨_, _, eR, mR aD a5, mS a9 a5, fD, lX, jF⟩
  ·replace aD := RD aD
   replace a9 := SD a9
   replace a3 := BD a3
   replace a5 := BD a5
   replace aG := BD aG
   replace cD := am (IsS103.drew cD.out)
   replace HK := am (keep_drew HK.out)
   replace HB := am (below_drew1 HB.1)
   have CH : 0 ≤ (bK : Int) := oT
   have CL : bK < (bT.length : Int) := oT
   have HN := am (show Kd.N k56 56 AA.drew w.heap.size (F14 w (.slice gI bE.length gJ) g a6 a8 cK) _ bT from Kd.N_mono (Kd.S_N (Kd.S_bound a9.1)) (fun k_ hk => ⟨hk.2.1, hk.1, isS_ne hk.2.2.2 cD.out, bnd_ne hk.2.2.2 a3.1 (by decide), bnd_ne hk.2.2.2 a5.1 (by decide), bnd_ne hk.2.2.2 aG.1 (by decide)⟩))
   clear a9
   obtain ⟨qG, HZ, J6, AF, AY, SM, sA, mQ, mT, xN, xL, xO, xM⟩ := at_T56 (Kd.N_reads' HN.out).2.2 bK CH CL
   cases SM
   clear xN xL xO xM
   obtain ⟨ce_, hce_, hMe_, hcc_⟩ := Kd.N_get HN.out z56 bK CH CL
   obtain ⟨ua1, uc1, ua2, uc2, rfl, ol, nb, om, nc⟩ := k56_openF hMe_
   have WD := hcc_ 1 _ rfl
   rw [add_field _ _ 1 (by omega)] at WD
   replace WD := Option.some.inj (WD.symm.trans mQ)
   have WE := hcc_ 2 _ rfl
   rw [add_field _ _ 2 (by omega)] at WE
   replace WE := Option.some.inj (WE.symm.trans mT)
   injection WD with WD _ Qh
   injection WE with WE _ Qi
   subst WD; subst Qh; subst WE; subst Qi
   clear hcc_ hce_ ol nb om nc
   have FKE := am (show Kd.FK k56 AA.drew (fun k => (F14 w (.slice gI bE.length gJ) g a6 a8 cK) k ∧ some k ≠ (.slice (some qG) bT.length e6 : Value).ownBlock) (rd_T56 bT bK) [.string (rd_T56 bT bK).f0, .slice ua1 (rd_T56 bT bK).f1.length uc1, .slice ua2 (rd_T56 bT bK).f2.length uc2] from hMe_)
   clear hMe_
   replace CH := eq_true CH
   replace CL := eq_true CL
   refine sT [10] 11 (uA2 aG) (fun hHeld => ?_)
   generalize AA.drew = Du at aD HN a3 a5 aG cD HK HB FKE sA mQ mT hHeld ⊢
   refine pU0 0 (some 103) ?_
   refine pU0 2 (some 105) ?_
   refine pU0 4 (some 107) ?_
   refine tK2_ 1 (some 104) ?_
   refine tK2_ 3 (some 106) ?_
   refine pU0 5 (some 108) ?_
   refine oM 6 (some 109) fun K hK => ?_
   refine value_ (w1 := ?_) (v := ?_) (by rfl) rfl ?_ ?_
   rotate_left 2
   ·go_simp
    constructor
    ·rfl
    ·rfl
   refine nK hK (uA2 aG).1 fun hHeld => ?_
   clear hK K
   refine oM 7 (some 110) fun K hK => ?_
   refine value_ (w1 := ?_) (v := ?_) (by rfl) rfl ?_ ?_
   rotate_left 2
   ·go_simp
    constructor
    ·rfl
    ·rfl
   refine hK.out _ _ ⟨(blk_cell (blk_alloc aG.1 _) 0).trans rfl, (blk_cell (blk_alloc aG.1 _) 1).trans rfl⟩ (fun hHeld => ?_)
   clear hK K
   refine nM ?_
   refine oM 8 (some 111) fun K hK => ?_
   refine Kd.N_append_step k56 w.heap.size (by rfl) (.tmp 104) (.tmp 110) 29 56 Ag0 64 rfl Try.underlying29 info56 rfl (by decide) (by omega) (.slice (some qG) bT.length e6) bT (rd_T56 bT bK) [.string (rd_T56 bT bK).f0, .slice ua1 (rd_T56 bT bK).f1.length uc1, .slice ua2 (rd_T56 bT bK).f2.length uc2] (F14 w (.slice gI bE.length gJ) g a6 a8 cK) (fun k => (F14 w (.slice gI bE.length gJ) g a6 a8 cK) k ∧ some k ≠ (.slice (some qG) bT.length e6 : Value).ownBlock) rfl rfl FKE.out (fun _ hk => hk) (fun k_ hk => ⟨Nat.le_trans HK.out.1 hk, Kd.fresh' (Kd.R_lt aD.1) k_ hk, fun e_ => absurd (isS_lt cD.out) (by omega), Kd.freshB a3.1 k_ hk, Kd.freshB a5.1 k_ hk, Kd.freshB aG.1 k_ hk⟩) HN.out (Below.refl _ _) HK.out.1 (by have := LM.out; omega) ?_
   intro vN NF ho hb hg hat
   replace aD := am (Kd.R_over' aD.1 (Kd.N_typed HN.out) (by decide) hg)
   replace a3 := am (blk_grown a3.1 hg (Kd.N_ne HN.out a3.1 (by decide)))
   replace a5 := am (blk_grown a5.1 hg (Kd.N_ne HN.out a5.1 (by decide)))
   replace aG := am (blk_grown aG.1 hg (Kd.N_ne HN.out aG.1 (by decide)))
   replace cD := am (IsS103.grown cD.out hg (IsS103.own_neN cD.out HN.out (by decide)))
   replace HK := am (KeepBut.trans HK.out (KeepBut.of_grown hg g) (Kd.N_base2 HN.out))
   replace HN := am ho
   replace HB := am (below_weaken HB.1 HL.out hb)
   clear FKE sA mQ mT ho hb hg hat
   generalize hyy : bT ++ [rd_T56 bT bK] = yN at HN ⊢
   obtain ⟨Ag, cg, rfl⟩ := Kd.N_slice HN.out
   refine nK hK (uA2 aG).1 fun hHeld => ?_
   clear hK K
   refine pU0 9 (some 112) ?_
   refine last_ (i := 10) (N := none) (bz 11 2047) rfl rfl (by kernel_rfl) (by decide) (fun K hK => ?_)
   have nu : NF.cell? ⟨cK, 1, none⟩ = some (.slice (some qG) bT.length e6) := (blk_cell aG.1 1).trans rfl
   have Pu := blk_frozen aG.1 1
   refine skip_ (w1 := (NF.setCell ⟨cK, 1, none⟩ (.slice Ag yN.length cg))) (by rfl) rfl ?_ ?_
   ·go_simp
    (try rfl)
   refine hK.out _ _ ?_
   clear hK K
   refine done_ (by kernel_rfl) ?_
   clear nu Pu
   have n0_ := am (Kd.R_mono (Kd.R_far (p := ⟨cK, 1, none⟩) (tR aD aG) (fun _ hk => hk.2) (.slice Ag yN.length cg)) (fun _ hk => hk.1))
   have n1_ := am (Kd.N_far (p := ⟨cK, 1, none⟩) HN.out (fun _ hk => hk.2.2.2.2.2) (.slice Ag yN.length cg))
   have n2_ := am (blk_far (p := ⟨cK, 1, none⟩) a3.1 dC.1 (.slice Ag yN.length cg))
   have n3_ := am (blk_far (p := ⟨cK, 1, none⟩) a5.1 e9.1 (.slice Ag yN.length cg))
   have n4_ := am (blk_put (cs := #[.slice gI bE.length gJ, .slice (some qG) bT.length e6]) aG.1 1 (.slice Ag yN.length cg) rfl)
   have n5_ : Aside0 (IsS103 w0 (NF.setCell ⟨cK, 1, none⟩ (.slice Ag yN.length cg)) g aJ nN) := ⟨by refine IsS103.far ?_ eQ.1 _; exact cD.out⟩
   have n6_ : Aside0 (KeepBut w (NF.setCell ⟨cK, 1, none⟩ (.slice Ag yN.length cg)) g none) := ⟨by refine keep_far ?_ wD.out _; exact HK.out⟩
   have n7_ : Aside0 (Below w0.heap.size w0 (NF.setCell ⟨cK, 1, none⟩ (.slice Ag yN.length cg))) := ⟨by refine below_set ?_ wC.1; exact HB.1⟩
   clear aD HN a3 a5 aG cD HK HB
   change Aside0 ((NF.setCell ⟨cK, 1, none⟩ (.slice Ag yN.length cg)).heap[cK]? = some (.cells #[.slice gI bE.length gJ, .slice Ag yN.length cg] 31 (0, 0))) at n4_
   generalize (NF.setCell ⟨cK, 1, none⟩ (.slice Ag yN.length cg)) = Dv at n0_ n1_ n2_ n3_ n4_ n5_ n6_ n7_ ⊢
   have aD := n0_
   have HN := n1_
   have a3 := n2_
   have a5 := n3_
   have aG := n4_
   have cD := n5_
   have HK := n6_
   have HB := n7_
   clear n0_ n1_ n2_ n3_ n4_ n5_ n6_ n7_
   have Bc : Dv.cell? ⟨cK, 0, none⟩ = some (.slice gI bE.length gJ) := (blk_cell aG.1 0).trans rfl
   have Bm := blk_frozen aG.1 0
   have Bd : Dv.cell? ⟨cK, 1, none⟩ = some (.slice Ag yN.length cg) := (blk_cell aG.1 1).trans rfl
   have Bn := blk_frozen aG.1 1
   have Ba : Dv.cell? ⟨a8, 0, none⟩ = some (.slice none 0 0) := (blk_cell a5.1 0).trans rfl
   have Bk := blk_frozen a5.1 0
   have Bb : Dv.cell? ⟨a8, 1, none⟩ = some (.slice none 0 0) := (blk_cell a5.1 1).trans rfl
   have Bl := blk_frozen a5.1 1
   have hnbz1 := aV.1
   have hnbz2 := aU.1
   have hnbz3 := cW.1
   have hnbz4 := eH.1
   try go_wp2
   refine cR a8 31 #[.slice gI bE.length gJ, .slice Ag yN.length cg] (blk_put (cs := #[.slice gI bE.length gJ, .slice none 0 0]) (blk_put (cs := #[.slice none 0 0, .slice none 0 0]) a5.1 0 _ rfl) 1 _ rfl) Try.underlying31 ?_
   rw [hyy]
   refine ⟨_, _, rfl, Kd.R_mono (Kd.R_bound (fR (fR (tR aD a5)))) (fun _ hk => hk.2.1), Kd.N_mono (Kd.N_far (p := ⟨a8, 1, none⟩) (Kd.N_far (p := ⟨a8, 0, none⟩) HN.out (fun _ hk => hk.2.2.2.2.1) (.slice gI bE.length gJ)) (fun _ hk => hk.2.2.2.2.1) (.slice Ag yN.length cg)) (fun _ hk => ⟨hk.1, hk.2.1⟩), ?_, ?_, ?_⟩
   ·refine IsS103.far ?_ eH.1 _; refine IsS103.far ?_ eH.1 _; exact cD.out
   ·exact below_set (below_set HB.1 eZ.1) eZ.1
   ·refine keep_far ?_ eO.out _; refine keep_far ?_ eO.out _; exact HK.out
  ·go_loopg [8] kj3 (fun kq v8 w' => ∃ (KT : Int) (jG : List (S56)) (q4 : Value), v8 = .int .i64 KT ∧ Aside0 (spec_l5Spoil.l0 kq (wrap64 (5 + Dc)) KT aJ V2 bE jG = some (r1, r2, r3)) ∧ Aside0 (kq ≤ kj3) ∧ Aside0 (Kd.R Kd.string 9 w' w.heap.size (fun _ => True) (.slice gI bE.length gJ) bE) ∧ Aside0 (Kd.S k56 56 w' w.heap.size (fun k_ => some k_ ≠ ((.slice gI bE.length gJ) : Value).ownBlock) q4 jG) ∧ Aside0 (w'.heap[a6]? = some (.cells #[(.slice lZ cA.length nA), (.slice lQ eI.length lE)] 31 (0, 0))) ∧ Aside0 (w'.heap[a8]? = some (.cells #[(.slice none 0 0), (.slice none 0 0)] 31 (0, 0))) ∧ Aside0 (w'.heap[cK]? = some (.cells #[(.slice gI bE.length gJ), q4] 31 (0, 0))) ∧ Aside0 (IsS103 w0 w' g aJ V2) ∧ Aside0 (KeepBut w w' g none) ∧ Aside0 (Below w0.heap.size w0 w'))
   case atStart => exact ⟨(0), (bT), (.slice yP bT.length e6), aQ, H', ⟨Nat.le_refl _⟩, ⟨rR aD.1⟩, ⟨rS a9.1⟩, ⟨rB a3.1⟩, ⟨rB a5.1⟩, ⟨rB aG.1⟩, ⟨fD⟩, ⟨jF⟩, ⟨lX⟩⟩
   case round =>
    clear H'
    try clear mc
    try clear ZH
    try clear ZI
    try clear mi
    try clear P1
    try clear ZM
    try clear Mz
    try clear RN
    try clear RO
    try clear Ml
    obtain ⟨KT, jG, q4, rfl, HA, HK2, aD, a9, a3, a5, aG, cD, HK, HB⟩ := hrel
    cases gk with
    | zero => exact absurd HA.out (by simp [spec_l5Spoil.l0])
    | succ k2 =>
     have H := HA.out
     clear HA
     simp only [spec_l5Spoil.l0] at H
     refine ic H ?_ ?_ <;> clear H <;> intro Nc H
     ·obtain ⟨DX, Lf, H⟩ := bd H
      by_cases J7 : 1 + DX.size ≤ 9223372036854775807
      ·rw [if_pos J7] at H
       have Nd := eq_true J7
       have Nf : decide (1 + DX.size ≤ 9223372036854775807) = true := decide_eq_true J7
       try have Ng : (9223372036854775807 < 1 + DX.size) = False := eq_false (Nat.not_lt.2 J7)
       obtain ⟨QZ, H⟩ := cL H
       obtain ⟨FH, D7⟩ := yv (jG ++ [(⟨(⟨#[122]⟩ : ByteArray) ++ DX, ([] : List ByteArray), ([] : List ByteArray)⟩ : S56)]); first | replace H := bW D7 H | rw [← D7.1] at H
       have H' := am H
       repeat clear H
       have kn := nZ3 dZ dC fH e9 dJ eQ
       have ko := cz2 aG
       obtain ⟨I1, JC, Ad⟩ := Kd.S_slice a9.1
       subst Ad
       try go_wp2
       replace aD := RD aD
       replace a9 := SD a9
       replace a3 := BD a3
       replace a5 := BD a5
       replace aG := BD aG
       replace cD := am (IsS103.drew cD.out)
       replace HK := am (keep_drew HK.out)
       replace HB := am (below_drew1 HB.1)
       refine sT [9] 10 (uA2 aG) (fun hHeld => ?_)
       refine with_tabW spec_l5Spoil.tab11 spec_l5Spoil.bits11 (fun HT_ HW_ => ?_)
       generalize wr.drew = qc at aD a9 a3 a5 aG cD HK HB hHeld ⊢
       refine pU2 0 2 ?_
       refine tK2 1 (some 47) ?_
       refine oN 3 (some 49) fun K hK => ?_
       refine gQ Try.func131 (spec_l5Dec.calls KT DX _ Lf.out) ?_
       rintro qd hb
       replace aD := RB gZ hb
       replace a9 := SB oZ hb
       replace a3 := bB aC hb
       replace a5 := bB aH hb
       replace aG := bB iM hb
       replace HK := kU w g jF hb
       replace HB := bS lX hb
       replace cD := am (IsS103.below fD hb)
       (try clear hb)
       (try clear hb2)
       (try clear hk)
       (try clear hi)
       refine nK hK (uA2 aG).1 fun hHeld => ?_
       clear hK K
       refine pU2 4 5 ?_
       refine oN 6 (some 52) fun K hK => ?_
       refine value_ (w1 := ?_) (v := ?_) (by rfl) rfl ?_ ?_
       rotate_left 2
       ·go_simp
        constructor
        ·rfl
        ·rfl
       refine hK.out _ _ ⟨(blk_cell (blk_alloc aG.1 _) 0).trans rfl, (blk_cell (blk_alloc aG.1 _) 1).trans rfl⟩ (fun hHeld => ?_)
       clear hK K
       refine nM ?_
       refine oN 7 (some 53) fun K hK => ?_
       refine Kd.S_append_step k56 w.heap.size (by rfl) (.tmp 47) (.tmp 52) 29 56 Ag0 64 rfl Try.underlying29 info56 rfl (by decide) (by omega) (.slice I1 jG.length JC) jG (⟨(⟨#[122]⟩ : ByteArray) ++ DX, ([] : List ByteArray), ([] : List ByteArray)⟩ : S56) [.string ((⟨#[122]⟩ : ByteArray) ++ DX), .slice none 0 0, .slice none 0 0] (fun k_ => some k_ ≠ (.slice gI bE.length gJ : Value).ownBlock) (fun _ => False) rfl rfl ?aP (fun k_ hk_ => hk_.elim) ?aF ?aO (Below.refl _ _) ?aS ?aL ?_
       (case aP => exact k56_mkM _ _ _ (⟨(⟨#[122]⟩ : ByteArray) ++ DX, ([] : List ByteArray), ([] : List ByteArray)⟩ : S56) (Kd.R_nil _ _ _ _ _) (Kd.R_nil _ _ _ _ _))
       (case aF => exact (fun k_ hk => Kd.fresh' (Kd.R_lt gZ) k_ hk))
       (case aO => exact (by refine rS ?_; exact Kd.S_mono a9.1 (fun k_ hk => ⟨hk, fun e_ => e_⟩)))
       (case aS => exact (kz w g jF))
       (case aL => have := QZ.out; omega)
       intro KC Sk ho hb hg hat
       rw [← D7.out] at ho
       replace aD := am (Kd.R_over' gZ (Kd.S_typed oZ) (by decide) hg)
       replace a3 := gkS aC hg a9 a3
       replace a5 := gkS aH hg a9 a5
       replace aG := gkS iM hg a9 aG
       replace HB := am (below_weaken lX HL.out hb)
       replace cD := am (IsS103.grown fD hg (IsS103.own_neS cD.out a9.1 (by decide)))
       replace HK := am (KeepBut.trans jF (KeepBut.of_grown hg g) (Kd.S_base2 a9.1))
       have oQ := am ho
       clear a9
       clear ho hb hg hat
       obtain ⟨WQ, ZS, PA⟩ := Kd.S_slice oQ.1
       (first | subst PA | (obtain ⟨f4_, f5_⟩ := sj PA; subst f4_; subst f5_))
       refine nK hK (uA2 aG).1 fun hHeld => ?_
       clear hK K
       refine pU1 8 ?_
       refine lN 9 none fun K hK => ?_
       have dc : Sk.cell? ⟨cK, 1, none⟩ = some (.slice I1 jG.length JC) := (blk_cell aG.1 1).trans rfl
       have Pt := blk_frozen aG.1 1
       have Ch := dC.1
       have Ci := e9.1
       have Cb := dZ.1
       have Cc := fH.1
       refine skip_ (w1 := ?_) (by rfl) rfl ?_ ?_
       rotate_left
       ·go_simp
        rfl
       refine hK.out _ _ ?_
       clear hK K
       refine dN ?_
       try go_wp2
       go_roundg k2
       case measure => have := HJ3.out; have := HK2.out; omega
       case rel => exact ⟨(wrap64 (KT + 1)), (FH), (.slice WQ FH.length ZS), aQ, H', ⟨by have := HJ3.out; have := HK2.out; omega⟩, ⟨mR aD aG⟩, ⟨mS oQ aG⟩, ⟨qF a3 dC⟩, ⟨qF a5 e9⟩, ⟨by refine rB ?_; refine blk_put (cs := #[.slice gI bE.length gJ, .slice I1 jG.length JC]) ?_ 1 _ rfl; refine rB ?_; exact aG.1⟩, ⟨fD⟩, ⟨jF⟩, ⟨lX⟩⟩
      ·rw [if_neg J7] at H
       exact absurd H (by simp)
     ·obtain ⟨rfl, rfl, rfl⟩ := sZ3 H
      repeat clear H
      have kp := nZ3 dZ dC fH e9 dJ eQ
      have kr := cz2 aG
      obtain ⟨WR, ZT, Ae⟩ := Kd.S_slice a9.1
      subst Ae
      have ks := nZ2 aV aU cW eH
      have kt := cz2 a5
      go_wp2
      refine cR a8 31 #[.slice gI bE.length gJ, .slice WR jG.length ZT] (qP a5) Try.underlying31 ?_
      refine toN_ ?_
      exact ⟨_, _, eR, mR aD a5, mS a9 a5, fD, lX, jF⟩
end Go.Proofs.Ytaofjgnhapnndaa.Q
namespace Go.Proofs.Ytaofjgnhapnndaa.Q
open Go.RowKit Go.Proofs.YtaofjgnhapnndaaW.PrintWords Go.Proofs.YtaofjgnhapnndaaW.PrintLast Go.Proofs.YtaofjgnhapnndaaW.PrintMore
set_option linter.unusedVariables false
set_option linter.unusedSimpArgs false
def spec_l5Any.f (k : Nat) (aJ : List Int) (cV : Int) : Option (List ByteArray × (List (S56)) × Int) := (spec_l5Book.f k aJ cV).bind fun a => ((spec_l1Rd_pick.f k aJ a.2.2 20).bind fun b => (if b.1 = 0 then ((spec_l5Spoil.f k aJ b.2 a.1 a.2.1).bind fun c => (some (c.1, c.2.1, c.2.2))) else (some (a.1, a.2.1, b.2))))
theorem spec_l5Any.calls (k : Nat) (g : Nat) (aJ : List Int) (cV : Int) (r1 : List ByteArray) (r2 : List (S56)) (r3 : Int) (w0 w : World) (hI : IsS103 w0 w g aJ cV) (hB : Below w0.heap.size w0 w) (h : spec_l5Any.f k aJ cV = some (r1, r2, r3)) :
  Calls Try.prog 98 #[.pointer (some ⟨g, 0, none⟩)] w fun e w' => ∃ v0_ v1_ : Value, e = .returned (.agg #[v0_, v1_]) ∧ Kd.R Kd.string 9 w' w.heap.size (fun k_ => (w.heap.size ≤ k_)) v0_ r1 ∧ Kd.N k56 56 w' w.heap.size (F10 w v0_) v1_ r2 ∧ IsS103 w0 w' g aJ r3 ∧ Below w0.heap.size w0 w' ∧ KeepBut w w' g none := by
 have hu31 := Try.underlying31
 have cD := am hI
 have HK := am (KeepBut.refl w g none)
 have HL := am hB.size
 clear hI
 have HW0 := am hB.size
 have HB := am hB
 clear hB
 unfold spec_l5Any.f at h
 have H := h
 clear h
 obtain ⟨⟨eB, e7, eV⟩, A2, H⟩ := bd H
 dsimp only at H
 obtain ⟨⟨jQ, aT⟩, A3, H⟩ := bd H
 dsimp only at H
 refine iq H ?_ ?_ <;> clear H <;> intro c4 jE yS H
 obtain ⟨⟨eA, eU, lI⟩, A5, H⟩ := bd H
 dsimp only at H
 obtain ⟨rfl, rfl, rfl⟩ := sZ3 H
 repeat clear H
 have G3 := trivial
 rotate_left
 obtain ⟨rfl, rfl, rfl⟩ := sZ3 H
 repeat clear H
 have OC := trivial
 rotate_left
 all_goals
  go_enter Try.func98, Try.ntmps98
  go_wp2_with (first | ((with_reducible refine gD 2 ?_); refine bX 2 #[.slice none 0 0, .slice none 0 0] 31 ?_; intro a6 hg gt hbox hb; replace HB := bS nU hb; have a3 := am hbox; have bR := am (yV : w.heap.size ≤ a6); have cJ := am (Nat.le_trans HW0.out (yV : w.heap.size ≤ a6) : w0.heap.size ≤ a6); replace HK := kU w g nV hb; have e5 := am (by rw [hg]; exact Nat.ne_of_lt (IsS103.lt (show IsS103 w0 _ g aJ cV from iY)) : g ≠ a6); have bP := am (by rw [hg]; exact Nat.ne_of_gt (IsS103.lt (show IsS103 w0 _ g aJ cV from iY)) : a6 ≠ g); replace cD := am (IsS103.below iY hb); clear hb hbox hg) | ((with_reducible refine gC 119 ?_); refine cE (some 5) Try.func119 (spec_l5Book.calls k g aJ cV eB e7 eV w0 _ (oG) (CJ) A2.out) ?_; rintro e gu ⟨vW, KA, rfl, bQ, gY, hi, hb, hk⟩; refine ⟨_, rfl, ?_⟩; have dK := am (Kd.R_lower (Kd.R_newM (M := fun k_ => (w.heap.size ≤ k_)) (Kd.R_mono (ok' := fun k_ => True) bQ (fun _ hk_ => trivial)) (kz w g vU) (fun k_ h_ => h_)) (kz w g vU)); have eK := am (Kd.N_lower (Kd.N_mono (ok' := F12 w vW a6 g) gY (fun k_ hk_ => ⟨(Nat.le_trans (kz w g vU) hk_.1), hk_.2, (fB aC k_ hk_.1), (IsS103.fresh oG k_ hk_.1)⟩)) (kz w g vU)); replace a3 := kb aC hk bP; replace HK := kT w g vU hk; replace HB := am hb; replace cD := am hi; (try clear hb); (try clear hk); (try clear hi); (try clear bQ); (try clear gY)) | ((with_reducible refine gD 3 ?_); refine bX 3 #[.slice none 0 0, .slice none 0 0] 31 ?_; intro cK hg gv hbox hb; replace dK := RB qK hb; replace eK := am (Kd.N_below (Kd.N_elderB (rN eK.1) cK (Nat.le_of_eq hg.symm)) hb); replace HB := bS CJ hb; have aG := am hbox; have wD := am (yU : w.heap.size ≤ cK); have wC := am (Nat.le_trans HW0.out (yU : w.heap.size ≤ cK) : w0.heap.size ≤ cK); replace HK := kU w g vU hb; have dC := nL aC hg; have dZ := nG aC hg; replace a3 := bB aC hb; have eQ := am (by rw [hg]; exact Nat.ne_of_lt (IsS103.lt (show IsS103 w0 _ g aJ eV from oG)) : g ≠ cK); have dJ := am (by rw [hg]; exact Nat.ne_of_gt (IsS103.lt (show IsS103 w0 _ g aJ eV from oG)) : cK ≠ g); replace cD := am (IsS103.below oG hb); clear hb hbox hg; obtain ⟨qT, r8, TS⟩ := Kd.R_slice dK.1; subst TS; have Xe := nZ2 dZ dC dJ eQ; have Xf := cz2 aG; obtain ⟨AK, BB, TT⟩ := Kd.N_slice eK.1; subst TT) | ((with_reducible refine gC 100 ?_); revert G3; intro G3; refine cQ (some 7) Try.func100 (spec_l1Rd_pick.calls k g aJ eV 20 jQ aT w0 _ (m8) (sZ) A3.out) ?_; rintro gw ⟨hi, hb, hk⟩; replace a3 := am (KeepBut.blk hk (g' := a6) (o := .cells #[.slice none 0 0, .slice none 0 0] 31 (0, 0)) K0 bP.1 (by simp)); replace dK := am (Kd.R_mono (Kd.R_keep (IsS103.apart (show IsS103 w0 _ g aJ eV from m8) (by refine rR ?_; exact (Kd.R_mono (fR (fR (tR dK aG))) (fun _ h_ => h_.1))) (by decide)) hk (fun _ h => h.2)) (fun _ h => h.1)); replace eK := am (Kd.N_mono (Kd.N_keep (Kd.N_mono (ok := fun k_ => ((((w.heap.size ≤ k_)) ∧ (some k_ ≠ (.slice qT eB.length r8 : Value).ownBlock ∧ (k_ ≠ a6 ∧ k_ ≠ g))) ∧ k_ ≠ cK)) (by refine rN ?_; exact (Kd.N_mono (fN (fN (Kd.N_mono eK.1 (fun k_ hk => (⟨hk, hk.2⟩ : _ ∧ k_ ≠ cK))))) (fun _ h_ => h_.1))) (fun k_ hk_ => (⟨hk_, hk_.1.2.2.2⟩ : _ ∧ k_ ≠ g))) hk (fun _ h => h.2)) (fun _ h => h.1)); replace aG := am (KeepBut.blk hk (g' := cK) (o := .cells #[.slice qT eB.length r8, .slice AK e7.length BB] 31 (0, 0)) (qP aG) dJ.1 (by simp)); replace HK := kT w g l4 hk; replace HB := am hb; replace cD := am hi; (try clear hb); (try clear hk); (try clear hi); have Xg := cz2 aG) | ((with_reducible refine gC 120 ?_); revert G3; intro G3; refine cE (some 11) Try.func120 (spec_l5Spoil.calls k g aJ aT _ _ eB _ _ e7 eA eU lI w0 _ (m8) (sZ) (pC (Kd.R_reads' dK.1).2.2) ((Kd.R_reads' dK.1).2.1) (far_slice (IsS103.own_ne cD.out dK.1 (by decide))) (Kd.C_foot_ownV (base := 0) (Kd.N_V (Kd.N_mono (ok := fun k_ => ((((w.heap.size ≤ k_)) ∧ (some k_ ≠ (.slice qT eB.length r8 : Value).ownBlock ∧ (k_ ≠ a6 ∧ k_ ≠ g))) ∧ k_ ≠ cK)) (rN eK.1) (fun k_ hk_ => (⟨hk_, hk_.1.2.2.2⟩ : _ ∧ k_ ≠ g)))) (fun _ h_ => h_.2)) ((Kd.N_reads' eK.1).2.1) A5.out) ?_; rintro e gx ⟨sH, DY, rfl, bQ, gY, hi, hb, hk⟩; refine ⟨_, rfl, ?_⟩; have f9 := am (Kd.R_lower (Kd.R_new' (Kd.R_newM (M := fun k_ => (w.heap.size ≤ k_)) (Kd.R_mono (ok' := fun k_ => True) bQ (fun _ hk_ => trivial)) (kz w g l4) (fun k_ h_ => h_)) (Kd.R_lt qK)) (kz w g l4)); have gU := am (Kd.N_lower (Kd.N_mono (ok' := F33 w sH (.slice qT eB.length r8) (.slice AK e7.length BB) a6 cK g) gY (fun k_ hk_ => ⟨(Nat.le_trans (kz w g l4) hk_.1), hk_.2, (Kd.fresh' (Kd.R_lt qK) k_ hk_.1), (Kd.fresh' (Kd.N_lt (rN eK.1)) k_ hk_.1), (fB aC k_ hk_.1), (fB iM k_ hk_.1), (IsS103.fresh m8 k_ hk_.1)⟩)) (kz w g l4)); replace a3 := kb aC hk bP; replace dK := am (Kd.R_mono (Kd.R_told (Kd.R_oldK (IsS103.apart (show IsS103 w0 _ g aJ aT from m8) qK (by decide)) hk) (Kd.R_base bQ)) (fun _ h_ => h_.1)); replace eK := am (Kd.N_mono (Kd.N_told (Kd.N_told (Kd.N_oldK (Kd.N_mono (ok := fun k_ => ((((w.heap.size ≤ k_)) ∧ (some k_ ≠ (.slice qT eB.length r8 : Value).ownBlock ∧ (k_ ≠ a6 ∧ k_ ≠ g))) ∧ k_ ≠ cK)) (rN eK.1) (fun k_ hk_ => (⟨hk_, hk_.1.2.2.2⟩ : _ ∧ k_ ≠ g))) hk) (Kd.R_base bQ)) (Kd.N_base gY)) (fun _ h_ => h_.1)); replace aG := kb iM hk dJ; replace HK := kT w g l4 hk; replace HB := am hb; replace cD := am hi; (try clear hb); (try clear hk); (try clear hi); (try clear bQ); (try clear gY); obtain ⟨QL, SC, TU⟩ := Kd.R_slice f9.1; subst TU; have Xh := nZ1 bP e5; have Xi := cz2 a3; obtain ⟨QM, SE, TV⟩ := Kd.N_slice gU.1; subst TV) | ((with_reducible refine gC 100 ?_); revert OC; intro OC; refine cQ (some 7) Try.func100 (spec_l1Rd_pick.calls k g aJ eV 20 jQ aT w0 _ (m8) (sZ) A3.out) ?_; rintro gy ⟨hi, hb, hk⟩; replace a3 := am (KeepBut.blk hk (g' := a6) (o := .cells #[.slice none 0 0, .slice none 0 0] 31 (0, 0)) K0 bP.1 (by simp)); replace dK := am (Kd.R_mono (Kd.R_keep (IsS103.apart (show IsS103 w0 _ g aJ eV from m8) (by refine rR ?_; exact (Kd.R_mono (fR (fR (tR dK aG))) (fun _ h_ => h_.1))) (by decide)) hk (fun _ h => h.2)) (fun _ h => h.1)); replace eK := am (Kd.N_mono (Kd.N_keep (Kd.N_mono (ok := fun k_ => ((((w.heap.size ≤ k_)) ∧ (some k_ ≠ (.slice qT eB.length r8 : Value).ownBlock ∧ (k_ ≠ a6 ∧ k_ ≠ g))) ∧ k_ ≠ cK)) (by refine rN ?_; exact (Kd.N_mono (fN (fN (Kd.N_mono eK.1 (fun k_ hk => (⟨hk, hk.2⟩ : _ ∧ k_ ≠ cK))))) (fun _ h_ => h_.1))) (fun k_ hk_ => (⟨hk_, hk_.1.2.2.2⟩ : _ ∧ k_ ≠ g))) hk (fun _ h => h.2)) (fun _ h => h.1)); replace aG := am (KeepBut.blk hk (g' := cK) (o := .cells #[.slice qT eB.length r8, .slice AK e7.length BB] 31 (0, 0)) (qP aG) dJ.1 (by simp)); replace HK := kT w g l4 hk; replace HB := am hb; replace cD := am hi; (try clear hb); (try clear hk); (try clear hi); have Xj := cz2 aG; have Xk := nZ1 bP e5; have Xl := cz2 a3))
 ·refine cR a6 31 #[.slice QL eA.length SC, .slice QM eU.length SE] (qP a3) Try.underlying31 ?_
  exact ⟨_, _, eR, mR f9 a3, by refine rN ?_; exact Kd.N_mono (fN (fN (Kd.N_mono gU.1 (fun k_ hk => (⟨hk, hk.2.2.2.2.1⟩ : _ ∧ k_ ≠ a6))))) (fun _ hk => ⟨hk.1.1, hk.1.2.1⟩), m8, sZ, l4⟩
 refine cR a6 31 #[.slice qT eB.length r8, .slice AK e7.length BB] (qP a3) Try.underlying31 ?_
 exact ⟨_, _, eR, mR dK a3, by refine rN ?_; exact Kd.N_mono (fN (fN (Kd.N_mono eK.1 (fun k_ hk => (⟨hk, hk.1.2.2.1⟩ : _ ∧ k_ ≠ a6))))) (fun _ hk => ⟨hk.1.1.1, hk.1.1.2.1⟩), m8, sZ, l4⟩
def spec_DrawShareMoves.f (k : Nat) (l0 : List Int) : Option (List ByteArray × (List (S56))) := (spec_l1Open.f l0).bind fun a => ((spec_l5Any.f k a.1 a.2).bind fun b => (some (b.1, b.2.1)))
theorem spec_DrawShareMoves.calls (k : Nat) (A0 : Option Addr) (c0 : Nat) (l0 : List Int) (r1 : List ByteArray) (r2 : List (S56)) (w : World) (gL : Kd.C (Kd.int .u8) w A0 l0.length l0) (l7 : l0.length ≤ c0) (h : spec_DrawShareMoves.f k l0 = some (r1, r2)) :
  Calls Try.prog 57 #[.slice A0 l0.length c0] w fun e w' => ∃ v0_ v1_ : Value, e = .returned (.agg #[v0_, v1_]) ∧ Kd.R Kd.string 9 w' w.heap.size (fun k_ => (w.heap.size ≤ k_)) v0_ r1 ∧ Kd.N k56 56 w' w.heap.size (F10 w v0_) v1_ r2 ∧ Below w.heap.size w w' := by
 have hu31 := Try.underlying31
 obtain ⟨hL, wE⟩ := mZ2 gL l7
 clear gL l7
 have HB := am (Below.refl w.heap.size w)
 unfold spec_DrawShareMoves.f at h
 have H := h
 clear h
 obtain ⟨⟨eB, bE⟩, A2, H⟩ := bd H
 dsimp only at H
 obtain ⟨⟨e7, eV, aT⟩, A3, H⟩ := bd H
 dsimp only at H
 obtain ⟨rfl, rfl⟩ := sZ2 H
 repeat clear H
 go_enter Try.func57, Try.ntmps57
 go_wp2_with (first | ((with_reducible refine gD 2 ?_); refine bX 2 #[.slice none 0 0, .slice none 0 0] 31 ?_; intro a6 hg w4 hbox hb; have a3 := am hbox; have bR := am (hJ : w.heap.size ≤ a6); have cJ := bR; replace HB := bS cI hb; clear hb hbox hg) | ((with_reducible refine gC 97 ?_); refine cE (some 4) Try.func97 (spec_l1Open.calls _ _ l0 eB bE w _ (aY) hL.1 wE.1 A2.out) ?_; rintro e w5 ⟨g104, rfl, hi, hb, hb2⟩; refine ⟨_, rfl, ?_⟩; replace HB := am hb; have jZ := am hi; have lD := am (IsS103.ne_blk hi (blk_below (g := a6) (o := .cells #[.slice none 0 0, .slice none 0 0] 31 (0, 0)) aC hb2) (by decide)); have fF := am (Ne.symm (IsS103.ne_blk hi (blk_below (g := a6) (o := .cells #[.slice none 0 0, .slice none 0 0] 31 (0, 0)) aC hb2) (by decide))); replace a3 := am (blk_below (g := a6) (o := .cells #[.slice none 0 0, .slice none 0 0] 31 (0, 0)) aC hb2); (try clear hb); (try clear hb2); (try clear hi)) | ((with_reducible refine gC 98 ?_); refine cE (some 5) Try.func98 (spec_l5Any.calls k g104 eB bE e7 eV aT w _ (F4) (vT) A3.out) ?_; rintro e w6 ⟨KA, uY, rfl, bQ, gY, hi, hb, hk⟩; refine ⟨_, rfl, ?_⟩; have eK := am (Kd.R_lower (Kd.R_newM (M := fun k_ => (w.heap.size ≤ k_)) (Kd.R_mono (ok' := fun k_ => True) bQ (fun _ hk_ => trivial)) (below_size vT) (fun k_ h_ => h_)) (below_size vT)); have dD := am (Kd.N_lower (Kd.N_mono (ok' := fun k_ => (w.heap.size ≤ k_) ∧ some k_ ≠ (KA : Value).ownBlock ∧ k_ ≠ a6 ∧ k_ ≠ g104) gY (fun k_ hk_ => ⟨(Nat.le_trans (below_size vT) hk_.1), hk_.2, (fB aC k_ hk_.1), (IsS103.fresh F4 k_ hk_.1)⟩)) (below_size vT)); replace a3 := kb aC hk fF; replace HB := am hb; replace jZ := am hi; (try clear hb); (try clear hk); (try clear hi); (try clear bQ); (try clear gY); obtain ⟨jq, mv, mz⟩ := Kd.R_slice eK.1; subst mz; have Z8 := nZ1 fF lD; have Z9 := cz2 a3; obtain ⟨WM, ZO, SO⟩ := Kd.N_slice dD.1; subst SO))
 refine cR a6 31 #[.slice jq e7.length mv, .slice WM eV.length ZO] (qP a3) Try.underlying31 ?_
 exact ⟨_, _, eR, mR eK a3, by refine rN ?_; exact Kd.N_mono (fN (fN (Kd.N_mono dD.1 (fun k_ hk => (⟨hk, hk.2.2.1⟩ : _ ∧ k_ ≠ a6))))) (fun _ hk => ⟨hk.1.1, hk.1.2.1⟩), vT⟩
def spec_l5Asks.f (k : Nat) (l0 : List Int) : Option (List ByteArray × (List (S56)) × ByteArray × List ByteArray) := (spec_l1Open.f l0).bind fun b => ((spec_l5Any.f k b.1 b.2).bind fun a => ((spec_l5Does.f k b.1 a.2.2 a.1 a.2.1).bind fun c => (some (a.1, a.2.1, c.2.1, c.2.2.1))))
def spec_l5Asks.T4 : Bool × List (List Nat × List Nat) := (true, [([], []), ([], []), ([1], [1]), ([], []), ([3], [3]), ([0, 0], [0]), ([2, 5, 0, 1, 2, 5], [2]), ([4, 6, 0, 1, 2, 3, 4, 5, 6], [4])])
def spec_l5Asks.B4 : List Nat := [0, 0, 2, 0, 8, 1, 39, 127]
theorem spec_l5Asks.tab4 : rtab .any (opsOf Try.f102 4) = spec_l5Asks.T4 := by kernel_rfl
theorem spec_l5Asks.bits4 : waitsOk spec_l5Asks.T4.2 spec_l5Asks.B4 = true := by kernel_rfl
theorem spec_l5Asks.calls (k : Nat) (A0 : Option Addr) (c0 : Nat) (l0 : List Int) (r1 : List ByteArray) (r2 : List (S56)) (r3 : ByteArray) (r4 : List ByteArray) (w : World) (gL : Kd.C (Kd.int .u8) w A0 l0.length l0) (l7 : l0.length ≤ c0) (h : spec_l5Asks.f k l0 = some (r1, r2, r3, r4)) :
  Calls Try.prog 102 #[.slice A0 l0.length c0] w fun e w' => ∃ v0_ v1_ v3_ : Value, e = .returned (.tuple #[.agg #[v0_, v1_], .string r3, v3_]) ∧ Kd.R Kd.string 9 w' w.heap.size (F10 w v3_) v0_ r1 ∧ Kd.N k56 56 w' w.heap.size (F20 w v0_ v3_) v1_ r2 ∧ Kd.R Kd.string 9 w' w.heap.size (F10 w v0_) v3_ r4 ∧ Below w.heap.size w w' := by
 have hu31 := Try.underlying31
 have hu106 := Try.underlying106
 obtain ⟨hL, wE⟩ := mZ2 gL l7
 clear gL l7
 have HB := am (Below.refl w.heap.size w)
 unfold spec_l5Asks.f at h
 have H := h
 clear h
 obtain ⟨⟨eB, bE⟩, A2, H⟩ := bd H
 dsimp only at H
 obtain ⟨⟨e7, eV, aT⟩, A3, H⟩ := bd H
 dsimp only at H
 obtain ⟨⟨qL, qM, eU, lI⟩, A4, H⟩ := bd H
 dsimp only at H
 simp only [Option.some.injEq, Prod.mk.injEq] at H
 obtain ⟨rfl, rfl, rfl, rfl⟩ := H
 go_enter Try.func102, Try.ntmps102
 try go_wp2_with (first | ((with_reducible refine gD 2 ?_); refine bX 2 #[.slice none 0 0, .slice none 0 0] 31 ?_; intro a6 hg w5 hbox hb; have a3 := am hbox; have bR := am (hJ : w.heap.size ≤ a6); have cJ := bR; replace HB := bS cI hb; clear hb hbox hg) | ((with_reducible refine gC 97 ?_); refine cE (some 9) Try.func97 (spec_l1Open.calls _ _ l0 eB bE w _ (aY) hL.1 wE.1 A2.out) ?_; rintro e w6 ⟨g104, rfl, hi, hb, hb2⟩; refine ⟨_, rfl, ?_⟩; replace HB := am hb; have jZ := am hi; have lD := am (IsS103.ne_blk hi (blk_below (g := a6) (o := .cells #[.slice none 0 0, .slice none 0 0] 31 (0, 0)) aC hb2) (by decide)); have fF := am (Ne.symm (IsS103.ne_blk hi (blk_below (g := a6) (o := .cells #[.slice none 0 0, .slice none 0 0] 31 (0, 0)) aC hb2) (by decide))); replace a3 := am (blk_below (g := a6) (o := .cells #[.slice none 0 0, .slice none 0 0] 31 (0, 0)) aC hb2); (try clear hb); (try clear hb2); (try clear hi)) | ((with_reducible refine gC 98 ?_); refine cE (some 11) Try.func98 (spec_l5Any.calls k g104 eB bE e7 eV aT w _ (F4) (vT) A3.out) ?_; rintro e w7 ⟨KA, uY, rfl, bQ, gY, hi, hb, hk⟩; refine ⟨_, rfl, ?_⟩; have eK := am (Kd.R_lower (Kd.R_newM (M := fun k_ => (w.heap.size ≤ k_)) (Kd.R_mono (ok' := fun k_ => True) bQ (fun _ hk_ => trivial)) (below_size vT) (fun k_ h_ => h_)) (below_size vT)); have dD := am (Kd.N_lower (Kd.N_mono (ok' := fun k_ => (w.heap.size ≤ k_) ∧ some k_ ≠ (KA : Value).ownBlock ∧ k_ ≠ a6 ∧ k_ ≠ g104) gY (fun k_ hk_ => ⟨(Nat.le_trans (below_size vT) hk_.1), hk_.2, (fB aC k_ hk_.1), (IsS103.fresh F4 k_ hk_.1)⟩)) (below_size vT)); replace a3 := kb aC hk fF; replace HB := am hb; replace jZ := am hi; (try clear hb); (try clear hk); (try clear hi); (try clear bQ); (try clear gY)) | ((with_reducible refine gD 6 ?_); refine bX 6 #[.slice none 0 0, .slice none 0 0] 31 ?_; intro iW hg w8 hbox hb; replace eK := am (Kd.R_below (rR eK.1) hb); replace dD := am (Kd.N_below (Kd.N_elderB (rN dD.1) iW (Nat.le_of_eq hg.symm)) hb); have kH := am hbox; have I4 := am (by rw [hg]; exact (below_size vT) : w.heap.size ≤ iW); have FL := I4; replace HB := bS vT hb; have k8 := nL aC hg; have jC := nG aC hg; replace a3 := bB aC hb; have vG := am (by rw [hg]; exact Nat.ne_of_lt (IsS103.lt (show IsS103 w _ g104 eB aT from F4)) : g104 ≠ iW); have zI := am (by rw [hg]; exact Nat.ne_of_gt (IsS103.lt (show IsS103 w _ g104 eB aT from F4)) : iW ≠ g104); replace jZ := am (IsS103.below F4 hb); clear hb hbox hg; obtain ⟨E5, DJ, Aw⟩ := Kd.R_slice eK.1; subst Aw; have Y8 := nZ2 jC k8 zI vG; have R7 := cz2 kH; obtain ⟨mI, m5, JI⟩ := Kd.N_slice dD.1; subst JI) | ((with_reducible refine gate_callee (f := 121) rfl ?_); refine goesL_ (some 14) rfl rfl Try.func121 (by kernel_rfl) rfl #[.pointer (some ⟨g104, 0, none⟩), .agg #[.slice E5 e7.length DJ, .slice mI eV.length m5]] rfl sE ?_; (with_reducible refine (spec_l5Does.calls k g104 eB aT _ _ e7 _ _ eV qL qM eU lI w _ ?side1 ?side2 ?side3 ?side4 ?side5 ?side6 ?side7 A4.out).mono ?_); (case side1 => exact K5); (case side2 => exact K4); (case side3 => refine (Kd.R_reads' (e := 9) (base := w.heap.size) (ok := fun k_ => (w.heap.size ≤ k_)) (n := e7.length) (c := DJ) ?_).2.2; exact (by refine rR ?_; exact Kd.R_mono (fR (fR (tR eK kH))) (fun _ hk => hk.1.1))); (case side4 => exact (Kd.R_reads' eK.1).2.1); (case side5 => exact far_slice (IsS103.own_ne jZ.out eK.1 (by decide))); (case side6 => exact Kd.C_foot_ownV (base := 0) (Kd.N_V (Kd.N_mono (ok := fun k_ => ((((w.heap.size ≤ k_)) ∧ (some k_ ≠ (.slice E5 e7.length DJ : Value).ownBlock ∧ (k_ ≠ a6 ∧ k_ ≠ g104))) ∧ k_ ≠ iW)) (by refine rN ?_; exact (Kd.N_mono (fN (fN (Kd.N_mono dD.1 (fun k_ hk => (⟨hk, hk.2⟩ : _ ∧ k_ ≠ iW))))) (fun _ h_ => h_.1))) (fun k_ hk_ => (⟨hk_, hk_.1.2.2.2⟩ : _ ∧ k_ ≠ g104)))) (fun _ h_ => h_.2)); (case side7 => exact (Kd.N_reads' dD.1).2.1); rintro e GS ⟨DY, rfl, bQ, hi, hb, hk⟩; refine ⟨_, rfl, ?_⟩; replace a3 := am (KeepBut.blk hk (g' := a6) (o := .cells #[.slice none 0 0, .slice none 0 0] 31 (0, 0)) (qF a3 k8) fF.1 (by simp)); replace dD := am (Kd.N_mono (Kd.N_told (Kd.N_oldK (Kd.N_mono (ok := fun k_ => ((((w.heap.size ≤ k_)) ∧ (some k_ ≠ (.slice E5 e7.length DJ : Value).ownBlock ∧ (k_ ≠ a6 ∧ k_ ≠ g104))) ∧ k_ ≠ iW)) (by refine rN ?_; exact (Kd.N_mono (fN (fN (Kd.N_mono dD.1 (fun k_ hk => (⟨hk, hk.2⟩ : _ ∧ k_ ≠ iW))))) (fun _ h_ => h_.1))) (fun k_ hk_ => (⟨hk_, hk_.1.2.2.2⟩ : _ ∧ k_ ≠ g104))) hk) (Kd.R_base bQ)) (fun _ h_ => h_.1)); have gU := am (Kd.R_lower (Kd.R_new' (Kd.R_newM (M := fun k_ => (w.heap.size ≤ k_)) bQ (below_size K4) (fun k_ h_ => h_)) (Kd.R_lt (by refine rR ?_; exact (Kd.R_mono (fR (fR (tR eK kH))) (fun _ h_ => h_.1))))) (below_size K4)); replace eK := am (Kd.R_mono (Kd.R_told (Kd.R_oldK (IsS103.apart (show IsS103 w _ g104 eB aT from K5) (by refine rR ?_; exact (Kd.R_mono (fR (fR (tR eK kH))) (fun _ h_ => h_.1))) (by decide)) hk) (Kd.R_base bQ)) (fun _ h_ => h_.1)); replace kH := am (KeepBut.blk hk (g' := iW) (o := .cells #[.slice E5 e7.length DJ, .slice mI eV.length m5] 31 (0, 0)) (qP kH) zI.1 (by simp)); replace HB := am hb; replace jZ := am hi; (try clear hb); (try clear hk); (try clear hi); (try clear bQ)) | ((with_reducible refine gD 7 ?_); refine bX 7 #[.int .i64 0, .string (⟨#[]⟩ : ByteArray), .slice none 0 0] 106 ?_; intro tJ hg Dm hbox hb; replace eK := am (Kd.R_below (rR eK.1) hb); replace dD := am (Kd.N_below (Kd.N_elderB (rN dD.1) tJ (Nat.le_of_eq hg.symm)) hb); replace gU := am (Kd.R_below (rR gU.1) hb); have t3 := am hbox; have X7 := am (by rw [hg]; exact (below_size K4) : w.heap.size ≤ tJ); have NJ := X7; replace HB := bS K4 hb; have rJ := nL aC hg; have jD := nG aC hg; replace a3 := bB aC hb; have zJ := am (by rw [hg]; exact Nat.ne_of_lt (blk_lt (g := iW) (o := .cells #[.slice E5 e7.length DJ, .slice mI eV.length m5] 31 (0, 0)) (rB kH.1)) : iW ≠ tJ); have H3 := am (by rw [hg]; exact Nat.ne_of_gt (blk_lt (g := iW) (o := .cells #[.slice E5 e7.length DJ, .slice mI eV.length m5] 31 (0, 0)) (rB kH.1)) : tJ ≠ iW); replace kH := am (blk_below (g := iW) (o := .cells #[.slice E5 e7.length DJ, .slice mI eV.length m5] 31 (0, 0)) (rB kH.1) hb); have zH := am (by rw [hg]; exact Nat.ne_of_lt (IsS103.lt (show IsS103 w _ g104 eB lI from K5)) : g104 ≠ tJ); have H0 := am (by rw [hg]; exact Nat.ne_of_gt (IsS103.lt (show IsS103 w _ g104 eB lI from K5)) : tJ ≠ g104); replace jZ := am (IsS103.below K5 hb); clear hb hbox hg; have Ep := nZ3 jD rJ H3 zJ H0 zH; have Y9 := cz3 t3; obtain ⟨jJ, eM, yG⟩ := Kd.R_slice gU.1; subst yG))
 obtain ⟨HT, eW_⟩ := eW3 Dm tJ (.int .i64 qL) (.string qM) (.slice jJ eU.length eM)
 rw [← eW_]
 replace eK : Aside0 (Kd.R Kd.string 9 HT w.heap.size (F10 w (.slice jJ eU.length eM)) (.slice E5 e7.length DJ) e7) := by rw [eW_]; exact ⟨by refine rR ?_; exact Kd.R_mono (fR (fR (fR (tR eK t3)))) (fun _ hk => ⟨hk.1.1.1, hk.1.2⟩)⟩
 replace dD : Aside0 (Kd.N k56 56 HT w.heap.size (fun k_ => (w.heap.size ≤ k_) ∧ some k_ ≠ (.slice E5 e7.length DJ : Value).ownBlock ∧ some k_ ≠ (.slice jJ eU.length eM : Value).ownBlock ∧ k_ ≠ a6 ∧ k_ ≠ g104 ∧ k_ ≠ iW ∧ k_ ≠ tJ) (.slice mI eV.length m5) eV) := by rw [eW_]; exact ⟨by refine rN ?_; exact Kd.N_mono (fN (fN (fN (Kd.N_mono dD.1 (fun k_ hk => (⟨hk, hk.2⟩ : _ ∧ k_ ≠ tJ)))))) (fun _ hk => ⟨hk.1.1.1.1.1, ⟨hk.1.1.1.1.2.1, ⟨hk.1.1.2, ⟨hk.1.1.1.1.2.2.1, ⟨hk.1.1.1.1.2.2.2, ⟨hk.1.1.1.2, hk.1.2⟩⟩⟩⟩⟩⟩)⟩
 replace gU : Aside0 (Kd.R Kd.string 9 HT w.heap.size (F10 w (.slice E5 e7.length DJ)) (.slice jJ eU.length eM) eU) := by rw [eW_]; exact ⟨by refine rR ?_; exact Kd.R_mono (fR (fR (fR (tR gU t3)))) (fun _ hk => ⟨hk.1.1.1, hk.1.2⟩)⟩
 replace a3 := uF3 eW_ a3 rJ
 replace kH := uF3 eW_ kH zJ
 replace t3 := uP3 eW_ t3
 replace jZ : Aside0 (IsS103 w HT g104 eB lI) := by rw [eW_]; exact ⟨by repeat (first | (with_reducible first | exact jZ.out | apply IsS103.alloc | apply IsS103.drewN | apply IsS103.drew | apply IsS103.set_1 | refine IsS103.far ?_ lD.1 _ | refine IsS103.far ?_ vG.1 _ | refine IsS103.far ?_ zH.1 _) | exact jZ.out)⟩
 replace HB := uC3 eW_ HB NJ
 clear eW_
 replace eK := RD eK
 replace dD := ND dD
 replace gU := RD gU
 replace a3 := BD a3
 replace kH := BD kH
 replace t3 := BD t3
 replace jZ := am (IsS103.drew jZ.out)
 replace HB := am (below_drew1 HB.1)
 refine sT [] 8 (uB2 kH (uA3 t3)) (fun hHeld => ?_)
 refine with_tabW spec_l5Asks.tab4 spec_l5Asks.bits4 (fun HT_ HW_ => ?_)
 generalize HT.drew = KF at eK dD gU a3 kH t3 jZ HB hHeld ⊢
 refine pU2 1 3 ?_
 refine tK5 0 (some 15) ?_
 refine tK5 2 (some 17) ?_
 refine tK5 4 (some 19) ?_
 refine oN 5 none fun K hK => ?_
 have nf : KF.cell? ⟨a6, 0, none⟩ = some (.slice none 0 0) := (blk_cell a3.1 0).trans rfl
 have Zo := blk_frozen a3.1 0
 have Jf := jC.1
 have Jg := jD.1
 have Hj := k8.1
 have Hk := rJ.1
 have ng : KF.cell? ⟨a6, 1, none⟩ = some (.slice none 0 0) := (blk_cell a3.1 1).trans rfl
 have Zp := blk_frozen a3.1 1
 have Jh := jC.1
 have Ji := jD.1
 have Hl := k8.1
 have Hm := rJ.1
 refine skip_ (w1 := ?_) (by rfl) rfl ?_ ?_
 rotate_left
 ·go_simp
  rfl
 refine hK.out _ _ ⟨((cell_far (p := ⟨a6, _, none⟩) jC.1 _).trans (((cell_far (p := ⟨a6, _, none⟩) jC.1 _).trans (hHeld.1)))), ((cell_far (p := ⟨a6, _, none⟩) jC.1 _).trans (((cell_far (p := ⟨a6, _, none⟩) jC.1 _).trans (hHeld.2.1)))), ((cell_far (p := ⟨a6, _, none⟩) jD.1 _).trans (((cell_far (p := ⟨a6, _, none⟩) jD.1 _).trans (hHeld.2.2.1)))), ((cell_far (p := ⟨a6, _, none⟩) jD.1 _).trans (((cell_far (p := ⟨a6, _, none⟩) jD.1 _).trans (hHeld.2.2.2.1)))), ((cell_far (p := ⟨a6, _, none⟩) jD.1 _).trans (((cell_far (p := ⟨a6, _, none⟩) jD.1 _).trans (hHeld.2.2.2.2))))⟩ (fun hHeld => ?_)
 clear hK K
 refine pU2 6 7 ?_
 refine dN ?_
 try go_wp2
 refine bodyPost_ret (results_ctt rfl _ _ a6 31 #[.slice E5 e7.length DJ, .slice mI eV.length m5] (0, 0) _ rfl (qP a3) Try.underlying31 rfl (by kernel_rfl)) rfl ?_
 exact ⟨_, _, _, eR, by refine rR ?_; exact Kd.R_mono (fR (fR (tR eK a3))) (fun _ hk => ⟨hk.1.1, hk.1.2⟩), by refine rN ?_; exact Kd.N_mono (fN (fN (Kd.N_mono dD.1 (fun k_ hk => (⟨hk, hk.2.2.2.1⟩ : _ ∧ k_ ≠ a6))))) (fun _ hk => ⟨hk.1.1, ⟨hk.1.2.1, hk.1.2.2.1⟩⟩), by refine rR ?_; exact Kd.R_mono (fR (fR (tR gU a3))) (fun _ hk => ⟨hk.1.1, hk.1.2⟩), by repeat (first | (with_reducible first | exact HB.1 | apply below_alloc | apply pw_below_drewN | apply below_drew1 | refine below_set ?_ (IsS103.ge jZ.out) | refine below_set ?_ cJ.1 | refine below_set ?_ FL.1 | refine below_set ?_ NJ.1) | exact HB.1)⟩
def spec_DrawShareWaits.f (k : Nat) (l0 : List Int) : Option (List ByteArray × (List (S56)) × ByteArray) := (spec_l5Asks.f k l0).bind fun a => (some (a.1, a.2.1, a.2.2.1))
theorem spec_DrawShareWaits.calls (k : Nat) (A0 : Option Addr) (c0 : Nat) (l0 : List Int) (r1 : List ByteArray) (r2 : List (S56)) (r3 : ByteArray) (w : World) (gL : Kd.C (Kd.int .u8) w A0 l0.length l0) (l7 : l0.length ≤ c0) (h : spec_DrawShareWaits.f k l0 = some (r1, r2, r3)) :
  Calls Try.prog 58 #[.slice A0 l0.length c0] w fun e w' => ∃ v0_ v1_ : Value, e = .returned (.tuple #[.agg #[v0_, v1_], .string r3]) ∧ Kd.R Kd.string 9 w' w.heap.size (fun k_ => (w.heap.size ≤ k_)) v0_ r1 ∧ Kd.N k56 56 w' w.heap.size (F10 w v0_) v1_ r2 ∧ Below w.heap.size w w' := by
 have hu31 := Try.underlying31
 obtain ⟨hL, wE⟩ := mZ2 gL l7
 clear gL l7
 have HB := am (Below.refl w.heap.size w)
 unfold spec_DrawShareWaits.f at h
 have H := h
 clear h
 obtain ⟨⟨eB, e7, eV, m9⟩, A2, H⟩ := bd H
 dsimp only at H
 obtain ⟨rfl, rfl, rfl⟩ := sZ3 H
 repeat clear H
 go_enter Try.func58, Try.ntmps58
 go_wp2_with (first | ((with_reducible refine gD 2 ?_); refine bX 2 #[.slice none 0 0, .slice none 0 0] 31 ?_; intro a6 hg w3 hbox hb; have a3 := am hbox; have bR := am (hJ : w.heap.size ≤ a6); have cJ := bR; replace HB := bS cI hb; clear hb hbox hg) | ((with_reducible refine gC 102 ?_); refine cE (some 9) Try.func102 (spec_l5Asks.calls k _ _ l0 eB e7 eV m9 _ (pB hL) wE.1 A2.out) ?_; rintro e w4 ⟨vW, KA, KB, rfl, bQ, gY, UE, hb⟩; refine ⟨_, rfl, ?_⟩; have dK := am (Kd.R_lower (Kd.R_newM (M := fun k_ => (w.heap.size ≤ k_)) (Kd.R_mono (ok' := fun k_ => some k_ ≠ (KB : Value).ownBlock) bQ (fun _ hk_ => hk_.2)) (below_size aY) (fun k_ h_ => h_)) (below_size aY)); have eK := am (Kd.N_lower (Kd.N_mono (ok' := F21 w vW KB a6) gY (fun k_ hk_ => ⟨(Nat.le_trans (below_size aY) hk_.1), hk_.2.1, hk_.2.2, (fB aC k_ hk_.1)⟩)) (below_size aY)); have mC := am (Kd.R_lower (Kd.R_newM (M := fun k_ => (w.heap.size ≤ k_)) (Kd.R_mono (ok' := fun k_ => some k_ ≠ (vW : Value).ownBlock) UE (fun _ hk_ => hk_.2)) (below_size aY) (fun k_ h_ => h_)) (below_size aY)); replace a3 := bB aC hb; replace HB := bS aY hb; (try clear hb); (try clear bQ); (try clear gY); (try clear UE)) | ((with_reducible refine gD 4 ?_); refine bX 4 #[.slice none 0 0, .slice none 0 0] 31 ?_; intro iW hg w5 hbox hb; replace dK := RB qK hb; replace eK := am (Kd.N_below (Kd.N_elderB (rN eK.1) iW (Nat.le_of_eq hg.symm)) hb); replace mC := am (Kd.R_below (rR mC.1) hb); have kH := am hbox; have I4 := am (p3 : w.heap.size ≤ iW); have FL := I4; replace HB := bS aY hb; have k8 := nL aC hg; have jC := nG aC hg; replace a3 := bB aC hb; clear hb hbox hg; obtain ⟨Ea, Ey, mx⟩ := Kd.R_slice dK.1; subst mx; have Z7 := nZ1 jC k8; have Z8 := cz2 kH; obtain ⟨E5, DJ, Aw⟩ := Kd.N_slice eK.1; subst Aw; have Y8 := cz2 a3))
 refine cT a6 31 #[.slice Ea eB.length Ey, .slice E5 e7.length DJ] (by refine rB ?_; refine blk_put (cs := #[.slice Ea eB.length Ey, .slice none 0 0]) ?_ 1 _ rfl; refine rB ?_; refine blk_put (cs := #[.slice none 0 0, .slice none 0 0]) ?_ 0 _ rfl; refine rB ?_; refine blk_far ?_ k8.1 _; refine rB ?_; refine blk_far ?_ k8.1 _; refine rB ?_; exact a3.1) Try.underlying31 ?_
 exact ⟨_, _, eR, by refine rR ?_; exact Kd.R_mono (fR (fR (Kd.R_far (p := ⟨iW, 1, none⟩) (Kd.R_far (p := ⟨iW, 0, none⟩) (Kd.R_types (tR dK kH) a3.1 (by decide)) (fun _ hk => hk.1.2) (.slice Ea eB.length Ey)) (fun _ hk => hk.1.2) (.slice E5 e7.length DJ)))) (fun _ hk => hk.1.1.1), by refine rN ?_; exact Kd.N_mono (fN (fN (Kd.N_far (p := ⟨iW, 1, none⟩) (Kd.N_far (p := ⟨iW, 0, none⟩) (Kd.N_mono (Kd.N_mono eK.1 (fun k_ hk => (⟨hk, hk.2⟩ : _ ∧ k_ ≠ iW))) (fun k_ hk => (⟨hk, hk.1.1.2.2.2⟩ : _ ∧ k_ ≠ a6))) (fun _ hk => hk.1.2) (.slice Ea eB.length Ey)) (fun _ hk => hk.1.2) (.slice E5 e7.length DJ)))) (fun _ hk => ⟨hk.1.1.1.1, hk.1.1.1.2.1⟩), by repeat (first | (with_reducible first | exact HB.1 | apply below_alloc | apply pw_below_drewN | apply below_drew1 | refine below_set ?_ cJ.1 | refine below_set ?_ FL.1) | exact HB.1)⟩
mutual
def laws_FnMoves.j0 : Nat → List Int → List Int → Bool → Option (Bool)
 | 0, _, _, _ => none
 | k + 1, d, c, e => if e = true then (some true) else ((spec_DrawShareMoves.f k d).bind fun a => ((impl_ShareMoves.f k a.1 a.2).bind fun b => ((spec_ShareMoves.f k a.1 a.2).bind fun g => ((laws_wTexts.f k b g).bind fun h => (if h = true then ((impl_ShareStuck.f k a.1 a.2).bind fun i => ((spec_ShareStuck.f k a.1 a.2).bind fun j => (if (i != j) = true then (laws_FnMoves.j1 k c b true a.1 a.2) else ((impl_ShareStuck.f k a.1 a.2).bind fun l => (if l = true then ((impl_ShareSafe.f k a.1 a.2).bind fun m => (laws_FnMoves.j1 k c b m a.1 a.2)) else (laws_FnMoves.j1 k c b false a.1 a.2)))))) else (laws_FnMoves.j1 k c b true a.1 a.2))))))
def laws_FnMoves.j1 : Nat → List Int → List ByteArray → Bool → List ByteArray → List (S56) → Option (Bool)
 | 0, _, _, _, _, _ => none
 | k + 1, a, b, c, d, e => if c = true then (some false) else (laws_FnMoves.l0 k a b 0 d e)
def laws_FnMoves.l0 : Nat → List Int → List ByteArray → Int → List ByteArray → List (S56) → Option (Bool)
 | 0, _, _, _, _, _ => none
 | k + 1, d, e, b, c, a => if b < (a.length : Int) then ((spec_ShareBookOk.f k c a).bind fun g => (laws_FnMoves.j3 k d e b g c a)) else (laws_FnMoves.j3 k d e b false c a)
def laws_FnMoves.j3 : Nat → List Int → List ByteArray → Int → Bool → List ByteArray → List (S56) → Option (Bool)
 | 0, _, _, _, _, _, _ => none
 | k + 1, d, e, b, h, g, c => if h = true then (if 0 ≤ b then (if b < (c.length : Int) then ((laws_wHas.f k e ((rd_T56 c b).f0)).bind fun i => ((impl_ShareWaits.f k g c ((rd_T56 c b).f0)).bind fun j => (if (i != ((j.length : Int) == 0)) = true then (some false) else (laws_FnMoves.l0 k d e (wrap64 (b + 1)) g c)))) else (none)) else (none)) else ((spec_DrawShareWaits.f k d).bind fun a => ((impl_ShareWaits.f k a.1 a.2.1 a.2.2).bind fun l => (laws_FnMoves.l1 k a.2.2 l 0 a.1 a.2.1)))
def laws_FnMoves.l1 : Nat → ByteArray → List ByteArray → Int → List ByteArray → List (S56) → Option (Bool)
 | 0, _, _, _, _, _ => none
 | k + 1, c, a, b, d, e => if b < (a.length : Int) then (if 0 ≤ b then (if (rdOf ByteArray.empty a b).toList = c.toList then (some false) else (laws_FnMoves.l1 k c a (wrap64 (b + 1)) d e)) else (none)) else ((spec_ShareWaits.f k d e c).bind fun g => ((laws_wTexts.f k a g).bind fun h => (some h)))
end
def laws_FnMoves.f (k : Nat) (l0 : List Int) (l1 : List Int) : Option (Bool) := if (l0.length : Int) > 1048576 then (laws_FnMoves.j0 k l0 l1 true) else (laws_FnMoves.j0 k l0 l1 (decide ((l1.length : Int) > 1048576)))
def laws_FnMoves.T5 : Bool × List (List Nat × List Nat) := (true, [([], []), ([], []), ([1], [1]), ([0, 2, 2], [0, 2]), ([3], [3]), ([4, 3], [4]), ([5], [5]), ([6, 5, 5], [5, 6]), ([5], [5]), ([8, 7, 5], [5, 8]), ([7, 9, 5], [5, 7, 9]), ([5, 10], [5, 10]), ([11, 9], [11]), ([12], [12]), ([13, 12, 12], [12, 13]), ([14, 14, 12], [12, 14]), ([15], [15]), ([16, 15, 15], [15, 16]), ([15, 17, 12], [12, 15, 17]), ([12, 18], [12, 18])])
def laws_FnMoves.B5 : List Nat := [0, 0, 2, 7, 15, 31, 63, 127, 63, 511, 1023, 2047, 4095, 8191, 16383, 32767, 65535, 131071, 262143, 524287]
theorem laws_FnMoves.tab5 : rtab .any (opsOf Try.f16 5) = laws_FnMoves.T5 := by kernel_rfl
theorem laws_FnMoves.bits5 : waitsOk laws_FnMoves.T5.2 laws_FnMoves.B5 = true := by kernel_rfl
def laws_FnMoves.T11 : Bool × List (List Nat × List Nat) := (true, [([], []), ([], []), ([0, 1], [0, 1]), ([], []), ([], []), ([3, 4, 2], [3, 4]), ([5], [5]), ([6], [6]), ([2, 7], [2, 7])])
def laws_FnMoves.B11 : List Nat := [0, 0, 3, 0, 0, 31, 63, 127, 255]
theorem laws_FnMoves.tab11 : rtab .any (opsOf Try.f16 11) = laws_FnMoves.T11 := by kernel_rfl
theorem laws_FnMoves.bits11 : waitsOk laws_FnMoves.T11.2 laws_FnMoves.B11 = true := by kernel_rfl
theorem laws_FnMoves.calls (k : Nat) (A0 : Option Addr) (c0 : Nat) (l0 : List Int) (A1 : Option Addr) (c1 : Nat) (l1 : List Int) (r : Bool) (w : World) (gL : Kd.C (Kd.int .u8) w A0 l0.length l0) (l7 : l0.length ≤ c0) (qQ : Kd.C (Kd.int .u8) w A1 l1.length l1) (sW : l1.length ≤ c1) (h : laws_FnMoves.f k l0 l1 = some r) :
  Calls Try.prog 16 #[.slice A0 l0.length c0, .slice A1 l1.length c1] w fun e w' => e = .returned (.bool r) ∧ Below w.heap.size w w' := by
 have hu31 := Try.underlying31
 obtain ⟨hL, wE⟩ := mZ2 gL l7
 obtain ⟨qX, sS⟩ := mZ2 qQ sW
 clear gL l7 qQ sW
 have HB := am (Below.refl w.heap.size w)
 unfold laws_FnMoves.f at h
 have H := h
 clear h
 have QQ := am H
 clear H
 go_enter Try.func16, Try.ntmps16
 go_upto_region 1 with ((fail))
 go_cut [20] (fun Rz wc => ∃ (kq : Nat) (KN : Bool), Rz = .bool KN ∧ Aside0 (laws_FnMoves.j0 kq l0 l1 KN = some r) ∧ Aside0 (kq ≤ k) ∧ Aside0 (Below w.heap.size w wc))
 case first =>
  have H := QQ.1
  clear QQ
  by_cases c4 : (l0.length : Int) > 1048576
  ·rw [if_pos c4] at H
   have jE : decide (1048576 < (l0.length : Int)) = true := decide_eq_true c4
   have yS : decide (1048576 < l0.length) = true := decide_eq_true (by omega)
   clear c4
   (first | rw [jE] | (simp only [i64_w, i32_w]; rw [jE]) | skip)
   have H' := am H
   repeat clear H
   go_wp2
   go_meet
   exact ⟨_, (true), aQ, H', ⟨by first | omega | exact Nat.le_refl _⟩, ⟨cI⟩⟩
  rw [if_neg c4] at H
  have jE : decide (1048576 < (l0.length : Int)) = false := decide_eq_false c4
  have yS : decide (1048576 < l0.length) = false := decide_eq_false (by omega)
  clear c4
  (first | rw [jE] | (simp only [i64_w, i32_w]; rw [jE]) | skip)
  have H' := am H
  repeat clear H
  go_wp2
  go_meet
  exact ⟨_, (decide ((l1.length : Int) > 1048576)), aQ, H', ⟨by first | omega | exact Nat.le_refl _⟩, ⟨cI⟩⟩
 clear QQ
 try clear c1
 obtain ⟨kq, KN, rfl, HA, HJ2, HB⟩ := hcut
 cases kq with
 | zero => exact absurd HA.out (by simp [laws_FnMoves.j0])
 | succ kj2 =>
  have H := HA.out
  clear HA
  simp only [laws_FnMoves.j0] at H
  refine tC H ?_ ?_ <;> clear H <;> intro c5 H <;> subst c5
  ·obtain rfl := Option.some.inj H
   repeat clear H
   go_wp2
   go_ret
   exact ⟨eR, cI⟩
  ·obtain ⟨⟨eJ, aN⟩, A6, H⟩ := bd H
   dsimp only at H
   obtain ⟨eV, A7, H⟩ := bd H
   have Mc := am H
   clear H
   go_upto_region 5 with (first | ((with_reducible refine gC 57 ?_); refine cE (some 22) Try.func57 (spec_DrawShareMoves.calls kj2 _ _ l0 eJ aN _ (pB hL) wE.1 A6.out) ?_; rintro e w9 ⟨HQ, sG, rfl, bQ, gY, hb⟩; refine ⟨_, rfl, ?_⟩; have cS := am (Kd.R_lower (Kd.R_mono (ok' := fun k_ => True) bQ (fun _ hk_ => trivial)) (below_size cI)); have aX := am (Kd.N_lower (Kd.N_mono (ok' := fun k_ => some k_ ≠ (HQ : Value).ownBlock) gY (fun k_ hk_ => hk_.2)) (below_size cI)); replace HB := bS cI hb; (try clear hb); (try clear bQ); (try clear gY)) | ((with_reducible refine gD 5 ?_); (try (refine gate_guard (by rfl) ?_; dsimp only)); refine bX 5 #[.slice none 0 0, .slice none 0 0] 31 ?_; intro eW hg Sc hbox hb; replace cS := RB l3 hb; replace aX := am (Kd.N_below (Kd.N_elderB oC eW (Nat.le_of_eq hg.symm)) hb); have b8 := am hbox; have qU := am (hJ : w.heap.size ≤ eW); have wB := qU; replace HB := bS cI hb; clear hb hbox hg; obtain ⟨m0, lV, Oo⟩ := Kd.R_slice cS.1; subst Oo; have R7 := cz2 b8; obtain ⟨mI, m5, JI⟩ := Kd.N_slice aX.1; subst JI) | ((with_reducible refine gate_callee (f := 43) rfl ?_); refine goesL_ (some 24) rfl rfl Try.func43 (by kernel_rfl) rfl #[.agg #[.slice m0 eJ.length lV, .slice mI aN.length m5]] rfl sE ?_; (with_reducible refine (impl_ShareMoves.calls kj2 _ _ eJ _ _ aN eV _ ?side1 ?side2 ?side3 ?side4 A7.out).mono ?_); (case side1 => refine (Kd.R_reads' (e := 9) (base := w.heap.size) (ok := fun k_ => True) (n := eJ.length) (c := lV) ?_).2.2; exact (by refine rR ?_; exact (Kd.R_mono (fR (fR (tR cS b8))) (fun _ h_ => h_.1)))); (case side2 => exact (Kd.R_reads' cS.1).2.1); (case side3 => refine (Kd.N_reads' (e := 56) (base := w.heap.size) (ok := fun k_ => (some k_ ≠ (.slice m0 eJ.length lV : Value).ownBlock ∧ k_ ≠ eW)) (n := aN.length) (c := m5) ?_).2.2; exact (by refine rN ?_; exact (Kd.N_mono (fN (fN (Kd.N_mono aX.1 (fun k_ hk => (⟨hk, hk.2⟩ : _ ∧ k_ ≠ eW))))) (fun _ h_ => h_.1)))); (case side4 => exact (Kd.N_reads' aX.1).2.1); rintro e GS ⟨uY, rfl, bQ, hb⟩; refine ⟨_, rfl, ?_⟩; replace aX := am (Kd.N_elder' (by refine rN ?_; exact (Kd.N_mono (fN (fN (Kd.N_mono aX.1 (fun k_ hk => (⟨hk, hk.2⟩ : _ ∧ k_ ≠ eW))))) (fun _ h_ => h_.1))) (Kd.R_base bQ) hb); have dD := am (Kd.R_lower (Kd.R_new' bQ (Kd.R_lt (by refine rR ?_; exact (Kd.R_mono (fR (fR (tR cS b8))) (fun _ h_ => h_.1))))) (below_size hY)); replace cS := am (Kd.R_elder' (by refine rR ?_; exact (Kd.R_mono (fR (fR (tR cS b8))) (fun _ h_ => h_.1))) (Kd.R_base bQ) hb); replace b8 := am (blk_below (g := eW) (o := .cells #[.slice m0 eJ.length lV, .slice mI aN.length m5] 31 (0, 0)) (qP b8) hb); replace HB := bS hY hb; (try clear hb); (try clear hk); (try clear bQ)))
   (try simp only [Act.put, List.setIfInBounds_toArray, List.set_cons_zero, List.set_cons_succ])
   go_cut [44] (fun pj wc => ∃ (kq : Nat) (KS : Bool), pj = .bool KS ∧ Aside0 (laws_FnMoves.j1 kq l1 eV KS eJ aN = some r) ∧ Aside0 (kq ≤ kj2) ∧ Aside0 (Kd.R Kd.string 9 wc w.heap.size (fun k_ => some k_ ≠ ((.slice m0 eJ.length lV) : Value).ownBlock) uY eV) ∧ Aside0 (Kd.R Kd.string 9 wc w.heap.size (fun k_ => some k_ ≠ (uY : Value).ownBlock) (.slice m0 eJ.length lV) eJ) ∧ Aside0 (Kd.N k56 56 wc w.heap.size (fun k_ => some k_ ≠ (uY : Value).ownBlock ∧ some k_ ≠ ((.slice m0 eJ.length lV) : Value).ownBlock ∧ k_ ≠ eW) (.slice mI aN.length m5) aN) ∧ Aside0 (wc.heap[eW]? = some (.cells #[(.slice m0 eJ.length lV), (.slice mI aN.length m5)] 31 (0, 0))) ∧ Aside0 (Below w.heap.size w wc))
   case first =>
    have H := Mc.1
    clear Mc
    obtain ⟨aT, EB, H⟩ := bd H
    obtain ⟨qM, CV, H⟩ := bd H
    refine tC H ?_ ?_ <;> clear H <;> intro VL H <;> subst VL
    ·obtain ⟨eU, Lg, H⟩ := bd H
     obtain ⟨pZ, WK, H⟩ := bd H
     by_cases E6 : (eU != pZ) = true
     ·rw [if_pos E6] at H
      have tF : (eU != pZ) = true := E6
      (try (have OP : decide (eU = pZ) = false := by simpa using E6))
      (try (have YW : (eU == pZ) = false := by simpa using E6))
      (try (have Xs : ¬ (eU = pZ) := by simpa using E6))
      clear E6
      (first | rw [tF] | (simp only [i64_w, i32_w]; rw [tF]) | skip)
      have H' := am H
      repeat clear H
      try go_wp2
      replace cS := RD cS
      replace aX := ND aX
      replace dD := RD dD
      replace b8 := BD b8
      replace HB := am (below_drew1 HB.1)
      refine sT [] 20 (uA2 b8) (fun hHeld => ?_)
      refine with_tabW laws_FnMoves.tab5 laws_FnMoves.bits5 (fun HT_ HW_ => ?_)
      generalize GS.drew = HT at cS aX dD b8 HB hHeld ⊢
      refine pU1 0 ?_
      refine tK2 1 (some 26) ?_
      refine oN 2 (some 27) fun K hK => ?_
      refine gE Try.func42 (spec_ShareMoves.calls kj2 _ _ eJ _ _ aN aT _ (pC (Kd.R_reads' cS.1).2.2) ((Kd.R_reads' cS.1).2.1) (pC (Kd.N_reads' aX.1).2.2) ((Kd.N_reads' aX.1).2.1) EB.out) ?_
      rintro e KF ⟨yL, rfl, bQ, hb⟩
      refine ⟨_, rfl, ?_⟩
      replace aX := am (Kd.N_elder' oC (Kd.R_base bQ) hb)
      have eP := am (Kd.R_lower (Kd.R_new' (Kd.R_new' bQ (Kd.R_lt l3)) (Kd.R_lt lW)) (below_size hY))
      replace cS := am (Kd.R_elder' l3 (Kd.R_base bQ) hb)
      replace dD := am (Kd.R_elder' lW (Kd.R_base bQ) hb)
      replace b8 := bB hZ hb
      replace HB := bS hY hb
      (try clear hb)
      (try clear hb2)
      (try clear hk)
      (try clear hi)
      (try clear bQ)
      obtain ⟨jg, mj, Ah⟩ := Kd.R_slice dD.1
      (first | subst Ah | (obtain ⟨f4_, f5_⟩ := sj Ah; subst f4_; subst f5_))
      obtain ⟨sB, iD, yH⟩ := Kd.R_slice eP.1
      (first | subst yH | (obtain ⟨f4_, f5_⟩ := sj yH; subst f4_; subst f5_))
      refine nK hK (uA2 b8).1 fun hHeld => ?_
      clear hK K
      refine oN 3 (some 28) fun K hK => ?_
      refine gQ Try.func54 (laws_wTexts.calls kj2 _ _ eV _ _ aT true _ (pC (Kd.R_reads' dD.1).2.2) ((Kd.R_reads' dD.1).2.1) (pC (Kd.R_reads' eP.1).2.2) ((Kd.R_reads' eP.1).2.1) CV.out) ?_
      rintro w' ⟨nd, rfl⟩
      refine nK hK (uA2 b8).1 fun hHeld => ?_
      clear hK K
      refine pU2 4 5 ?_
      refine tK2 6 (some 31) ?_
      refine tK2 8 (some 33) ?_
      refine oN 7 (some 32) fun K hK => ?_
      refine gQ Try.func29 (impl_ShareStuck.calls kj2 _ _ eJ _ _ aN eU _ (pC (Kd.R_reads' cS.1).2.2) ((Kd.R_reads' cS.1).2.1) (pC (Kd.N_reads' aX.1).2.2) ((Kd.N_reads' aX.1).2.1) Lg.out) ?_
      rintro WG hb
      replace cS := RB l3 hb
      replace aX := NE oC hb
      replace dD := RB lW hb
      replace eP := RB uR hb
      replace b8 := bB hZ hb
      replace HB := bS hY hb
      (try clear hb)
      (try clear hb2)
      (try clear hk)
      (try clear hi)
      refine nK hK (uA2 b8).1 fun hHeld => ?_
      clear hK K
      refine oN 9 (some 34) fun K hK => ?_
      refine gQ Try.func28 (spec_ShareStuck.calls kj2 _ _ eJ _ _ aN pZ _ (pC (Kd.R_reads' cS.1).2.2) ((Kd.R_reads' cS.1).2.1) (pC (Kd.N_reads' aX.1).2.2) ((Kd.N_reads' aX.1).2.1) WK.out) ?_
      rintro Dn hb
      replace cS := RB l3 hb
      replace aX := NE oC hb
      replace dD := RB lW hb
      replace eP := RB uR hb
      replace b8 := bB hZ hb
      replace HB := bS hY hb
      (try clear hb)
      (try clear hb2)
      (try clear hk)
      (try clear hi)
      refine nK hK (uA2 b8).1 fun hHeld => ?_
      clear hK K
      refine pU3 10 11 12 ?_
      refine pV6 13 14 15 16 17 18 ?_
      refine pU1 19 ?_
      refine dN ?_
      try go_wp2
      go_meet
      case rel => exact ⟨_, (true), aQ, H', ⟨by have := HJ2.out; first | omega | exact Nat.le_refl _⟩, ⟨by refine rR ?_; exact Kd.R_mono dD.1 (fun _ hk => hk.1.2)⟩, ⟨by refine rR ?_; exact Kd.R_mono cS.1 (fun _ hk => hk.1.2)⟩, ⟨by refine rN ?_; exact Kd.N_mono aX.1 (fun _ hk => ⟨hk.1.2, ⟨hk.1.1.1, hk.1.1.2⟩⟩)⟩, ⟨rB b8.1⟩, ⟨hY⟩⟩
     ·rw [if_neg E6] at H
      have tF : (eU != pZ) = false := by simpa using E6
      (try (have OP : decide (eU = pZ) = true := by simpa using E6))
      (try (have YW : (eU == pZ) = true := by simpa using E6))
      clear E6
      (first | rw [tF] | (simp only [i64_w, i32_w]; rw [tF]) | skip)
      obtain ⟨vV, Ta, H⟩ := bd H
      refine tC H ?_ ?_ <;> clear H <;> intro Nk H <;> subst Nk
      ·obtain ⟨lI, VI, H⟩ := bd H
       have H' := am H
       repeat clear H
       try go_wp2
       replace cS := RD cS
       replace aX := ND aX
       replace dD := RD dD
       replace b8 := BD b8
       replace HB := am (below_drew1 HB.1)
       refine sT [] 20 (uA2 b8) (fun hHeld => ?_)
       refine with_tabW laws_FnMoves.tab5 laws_FnMoves.bits5 (fun HT_ HW_ => ?_)
       generalize GS.drew = Do at cS aX dD b8 HB hHeld ⊢
       refine pU1 0 ?_
       refine tK2 1 (some 26) ?_
       refine oN 2 (some 27) fun K hK => ?_
       refine gE Try.func42 (spec_ShareMoves.calls kj2 _ _ eJ _ _ aN aT _ (pC (Kd.R_reads' cS.1).2.2) ((Kd.R_reads' cS.1).2.1) (pC (Kd.N_reads' aX.1).2.2) ((Kd.N_reads' aX.1).2.1) EB.out) ?_
       rintro e Ks ⟨yL, rfl, bQ, hb⟩
       refine ⟨_, rfl, ?_⟩
       replace aX := am (Kd.N_elder' oC (Kd.R_base bQ) hb)
       have eP := am (Kd.R_lower (Kd.R_new' (Kd.R_new' bQ (Kd.R_lt l3)) (Kd.R_lt lW)) (below_size hY))
       replace cS := am (Kd.R_elder' l3 (Kd.R_base bQ) hb)
       replace dD := am (Kd.R_elder' lW (Kd.R_base bQ) hb)
       replace b8 := bB hZ hb
       replace HB := bS hY hb
       (try clear hb)
       (try clear hb2)
       (try clear hk)
       (try clear hi)
       (try clear bQ)
       obtain ⟨jh, ml, Ai⟩ := Kd.R_slice dD.1
       (first | subst Ai | (obtain ⟨f4_, f5_⟩ := sj Ai; subst f4_; subst f5_))
       obtain ⟨Lq, Nt, M5⟩ := Kd.R_slice eP.1
       (first | subst M5 | (obtain ⟨f4_, f5_⟩ := sj M5; subst f4_; subst f5_))
       refine nK hK (uA2 b8).1 fun hHeld => ?_
       clear hK K
       refine oN 3 (some 28) fun K hK => ?_
       refine gQ Try.func54 (laws_wTexts.calls kj2 _ _ eV _ _ aT true _ (pC (Kd.R_reads' dD.1).2.2) ((Kd.R_reads' dD.1).2.1) (pC (Kd.R_reads' eP.1).2.2) ((Kd.R_reads' eP.1).2.1) CV.out) ?_
       rintro w' ⟨nd, rfl⟩
       refine nK hK (uA2 b8).1 fun hHeld => ?_
       clear hK K
       refine pU2 4 5 ?_
       refine tK2 6 (some 31) ?_
       refine tK2 8 (some 33) ?_
       refine oN 7 (some 32) fun K hK => ?_
       refine gQ Try.func29 (impl_ShareStuck.calls kj2 _ _ eJ _ _ aN eU _ (pC (Kd.R_reads' cS.1).2.2) ((Kd.R_reads' cS.1).2.1) (pC (Kd.N_reads' aX.1).2.2) ((Kd.N_reads' aX.1).2.1) Lg.out) ?_
       rintro Sm hb
       replace cS := RB l3 hb
       replace aX := NE oC hb
       replace dD := RB lW hb
       replace eP := RB uR hb
       replace b8 := bB hZ hb
       replace HB := bS hY hb
       (try clear hb)
       (try clear hb2)
       (try clear hk)
       (try clear hi)
       refine nK hK (uA2 b8).1 fun hHeld => ?_
       clear hK K
       refine oN 9 (some 34) fun K hK => ?_
       refine gQ Try.func28 (spec_ShareStuck.calls kj2 _ _ eJ _ _ aN pZ _ (pC (Kd.R_reads' cS.1).2.2) ((Kd.R_reads' cS.1).2.1) (pC (Kd.N_reads' aX.1).2.2) ((Kd.N_reads' aX.1).2.1) WK.out) ?_
       rintro N9 hb
       replace cS := RB l3 hb
       replace aX := NE oC hb
       replace dD := RB lW hb
       replace eP := RB uR hb
       replace b8 := bB hZ hb
       replace HB := bS hY hb
       (try clear hb)
       (try clear hb2)
       (try clear hk)
       (try clear hi)
       refine nK hK (uA2 b8).1 fun hHeld => ?_
       clear hK K
       refine pU3 10 11 12 ?_
       refine tK2 13 (some 38) ?_
       refine oN 14 (some 39) fun K hK => ?_
       refine gQ Try.func29 (impl_ShareStuck.calls kj2 _ _ eJ _ _ aN true _ (pC (Kd.R_reads' cS.1).2.2) ((Kd.R_reads' cS.1).2.1) (pC (Kd.N_reads' aX.1).2.2) ((Kd.N_reads' aX.1).2.1) Ta.out) ?_
       rintro NA hb
       replace cS := RB l3 hb
       replace aX := NE oC hb
       replace dD := RB lW hb
       replace eP := RB uR hb
       replace b8 := bB hZ hb
       replace HB := bS hY hb
       (try clear hb)
       (try clear hb2)
       (try clear hk)
       (try clear hi)
       refine nK hK (uA2 b8).1 fun hHeld => ?_
       clear hK K
       refine pU1 15 ?_
       refine tK2 16 (some 41) ?_
       refine oN 17 (some 42) fun K hK => ?_
       refine gQ Try.func36 (impl_ShareSafe.calls kj2 _ _ eJ _ _ aN lI _ (pC (Kd.R_reads' cS.1).2.2) ((Kd.R_reads' cS.1).2.1) (pC (Kd.N_reads' aX.1).2.2) ((Kd.N_reads' aX.1).2.1) VI.out) ?_
       rintro NB hb
       replace cS := RB l3 hb
       replace aX := NE oC hb
       replace dD := RB lW hb
       replace eP := RB uR hb
       replace b8 := bB hZ hb
       replace HB := bS hY hb
       (try clear hb)
       (try clear hb2)
       (try clear hk)
       (try clear hi)
       refine nK hK (uA2 b8).1 fun hHeld => ?_
       clear hK K
       refine pU2 18 19 ?_
       refine dN ?_
       try go_wp2
       go_meet
       case rel => exact ⟨_, (lI), aQ, H', ⟨by have := HJ2.out; first | omega | exact Nat.le_refl _⟩, ⟨by refine rR ?_; exact Kd.R_mono dD.1 (fun _ hk => hk.1.2)⟩, ⟨by refine rR ?_; exact Kd.R_mono cS.1 (fun _ hk => hk.1.2)⟩, ⟨by refine rN ?_; exact Kd.N_mono aX.1 (fun _ hk => ⟨hk.1.2, ⟨hk.1.1.1, hk.1.1.2⟩⟩)⟩, ⟨rB b8.1⟩, ⟨hY⟩⟩
      ·have H' := am H
       repeat clear H
       try go_wp2
       replace cS := RD cS
       replace aX := ND aX
       replace dD := RD dD
       replace b8 := BD b8
       replace HB := am (below_drew1 HB.1)
       refine sT [] 20 (uA2 b8) (fun hHeld => ?_)
       refine with_tabW laws_FnMoves.tab5 laws_FnMoves.bits5 (fun HT_ HW_ => ?_)
       generalize GS.drew = PO at cS aX dD b8 HB hHeld ⊢
       refine pU1 0 ?_
       refine tK2 1 (some 26) ?_
       refine oN 2 (some 27) fun K hK => ?_
       refine gE Try.func42 (spec_ShareMoves.calls kj2 _ _ eJ _ _ aN aT _ (pC (Kd.R_reads' cS.1).2.2) ((Kd.R_reads' cS.1).2.1) (pC (Kd.N_reads' aX.1).2.2) ((Kd.N_reads' aX.1).2.1) EB.out) ?_
       rintro e Dp ⟨yL, rfl, bQ, hb⟩
       refine ⟨_, rfl, ?_⟩
       replace aX := am (Kd.N_elder' oC (Kd.R_base bQ) hb)
       have eP := am (Kd.R_lower (Kd.R_new' (Kd.R_new' bQ (Kd.R_lt l3)) (Kd.R_lt lW)) (below_size hY))
       replace cS := am (Kd.R_elder' l3 (Kd.R_base bQ) hb)
       replace dD := am (Kd.R_elder' lW (Kd.R_base bQ) hb)
       replace b8 := bB hZ hb
       replace HB := bS hY hb
       (try clear hb)
       (try clear hb2)
       (try clear hk)
       (try clear hi)
       (try clear bQ)
       obtain ⟨jj, mn, Al⟩ := Kd.R_slice dD.1
       (first | subst Al | (obtain ⟨f4_, f5_⟩ := sj Al; subst f4_; subst f5_))
       obtain ⟨WV, ZW, JK⟩ := Kd.R_slice eP.1
       (first | subst JK | (obtain ⟨f4_, f5_⟩ := sj JK; subst f4_; subst f5_))
       refine nK hK (uA2 b8).1 fun hHeld => ?_
       clear hK K
       refine oN 3 (some 28) fun K hK => ?_
       refine gQ Try.func54 (laws_wTexts.calls kj2 _ _ eV _ _ aT true _ (pC (Kd.R_reads' dD.1).2.2) ((Kd.R_reads' dD.1).2.1) (pC (Kd.R_reads' eP.1).2.2) ((Kd.R_reads' eP.1).2.1) CV.out) ?_
       rintro w' ⟨nd, rfl⟩
       refine nK hK (uA2 b8).1 fun hHeld => ?_
       clear hK K
       refine pU2 4 5 ?_
       refine tK2 6 (some 31) ?_
       refine tK2 8 (some 33) ?_
       refine oN 7 (some 32) fun K hK => ?_
       refine gQ Try.func29 (impl_ShareStuck.calls kj2 _ _ eJ _ _ aN eU _ (pC (Kd.R_reads' cS.1).2.2) ((Kd.R_reads' cS.1).2.1) (pC (Kd.N_reads' aX.1).2.2) ((Kd.N_reads' aX.1).2.1) Lg.out) ?_
       rintro Sn hb
       replace cS := RB l3 hb
       replace aX := NE oC hb
       replace dD := RB lW hb
       replace eP := RB uR hb
       replace b8 := bB hZ hb
       replace HB := bS hY hb
       (try clear hb)
       (try clear hb2)
       (try clear hk)
       (try clear hi)
       refine nK hK (uA2 b8).1 fun hHeld => ?_
       clear hK K
       refine oN 9 (some 34) fun K hK => ?_
       refine gQ Try.func28 (spec_ShareStuck.calls kj2 _ _ eJ _ _ aN pZ _ (pC (Kd.R_reads' cS.1).2.2) ((Kd.R_reads' cS.1).2.1) (pC (Kd.N_reads' aX.1).2.2) ((Kd.N_reads' aX.1).2.1) WK.out) ?_
       rintro Dq hb
       replace cS := RB l3 hb
       replace aX := NE oC hb
       replace dD := RB lW hb
       replace eP := RB uR hb
       replace b8 := bB hZ hb
       replace HB := bS hY hb
       (try clear hb)
       (try clear hb2)
       (try clear hk)
       (try clear hi)
       refine nK hK (uA2 b8).1 fun hHeld => ?_
       clear hK K
       refine pU3 10 11 12 ?_
       refine tK2 13 (some 38) ?_
       refine oN 14 (some 39) fun K hK => ?_
       refine gQ Try.func29 (impl_ShareStuck.calls kj2 _ _ eJ _ _ aN false _ (pC (Kd.R_reads' cS.1).2.2) ((Kd.R_reads' cS.1).2.1) (pC (Kd.N_reads' aX.1).2.2) ((Kd.N_reads' aX.1).2.1) Ta.out) ?_
       rintro WI hb
       replace cS := RB l3 hb
       replace aX := NE oC hb
       replace dD := RB lW hb
       replace eP := RB uR hb
       replace b8 := bB hZ hb
       replace HB := bS hY hb
       (try clear hb)
       (try clear hb2)
       (try clear hk)
       (try clear hi)
       refine nK hK (uA2 b8).1 fun hHeld => ?_
       clear hK K
       refine pU1 15 ?_
       refine pV2 16 17 ?_
       refine pU2 18 19 ?_
       refine dN ?_
       try go_wp2
       go_meet
       case rel => exact ⟨_, (false), aQ, H', ⟨by have := HJ2.out; first | omega | exact Nat.le_refl _⟩, ⟨by refine rR ?_; exact Kd.R_mono dD.1 (fun _ hk => hk.1.2)⟩, ⟨by refine rR ?_; exact Kd.R_mono cS.1 (fun _ hk => hk.1.2)⟩, ⟨by refine rN ?_; exact Kd.N_mono aX.1 (fun _ hk => ⟨hk.1.2, ⟨hk.1.1.1, hk.1.1.2⟩⟩)⟩, ⟨rB b8.1⟩, ⟨hY⟩⟩
    ·have H' := am H
     repeat clear H
     try go_wp2
     replace cS := RD cS
     replace aX := ND aX
     replace dD := RD dD
     replace b8 := BD b8
     replace HB := am (below_drew1 HB.1)
     refine sT [] 20 (uA2 b8) (fun hHeld => ?_)
     refine with_tabW laws_FnMoves.tab5 laws_FnMoves.bits5 (fun HT_ HW_ => ?_)
     generalize GS.drew = ek at cS aX dD b8 HB hHeld ⊢
     refine pU1 0 ?_
     refine tK2 1 (some 26) ?_
     refine oN 2 (some 27) fun K hK => ?_
     refine gE Try.func42 (spec_ShareMoves.calls kj2 _ _ eJ _ _ aN aT _ (pC (Kd.R_reads' cS.1).2.2) ((Kd.R_reads' cS.1).2.1) (pC (Kd.N_reads' aX.1).2.2) ((Kd.N_reads' aX.1).2.1) EB.out) ?_
     rintro e Ku ⟨yL, rfl, bQ, hb⟩
     refine ⟨_, rfl, ?_⟩
     replace aX := am (Kd.N_elder' oC (Kd.R_base bQ) hb)
     have eP := am (Kd.R_lower (Kd.R_new' (Kd.R_new' bQ (Kd.R_lt l3)) (Kd.R_lt lW)) (below_size hY))
     replace cS := am (Kd.R_elder' l3 (Kd.R_base bQ) hb)
     replace dD := am (Kd.R_elder' lW (Kd.R_base bQ) hb)
     replace b8 := bB hZ hb
     replace HB := bS hY hb
     (try clear hb)
     (try clear hb2)
     (try clear hk)
     (try clear hi)
     (try clear bQ)
     obtain ⟨jk, mo, An⟩ := Kd.R_slice dD.1
     (first | subst An | (obtain ⟨f4_, f5_⟩ := sj An; subst f4_; subst f5_))
     obtain ⟨jl, mq, Ao⟩ := Kd.R_slice eP.1
     (first | subst Ao | (obtain ⟨f4_, f5_⟩ := sj Ao; subst f4_; subst f5_))
     refine nK hK (uA2 b8).1 fun hHeld => ?_
     clear hK K
     refine oN 3 (some 28) fun K hK => ?_
     refine gQ Try.func54 (laws_wTexts.calls kj2 _ _ eV _ _ aT false _ (pC (Kd.R_reads' dD.1).2.2) ((Kd.R_reads' dD.1).2.1) (pC (Kd.R_reads' eP.1).2.2) ((Kd.R_reads' eP.1).2.1) CV.out) ?_
     rintro w' ⟨nd, rfl⟩
     refine nK hK (uA2 b8).1 fun hHeld => ?_
     clear hK K
     refine pU2 4 5 ?_
     refine pV5 6 7 8 9 10 ?_
     refine pU2 11 12 ?_
     refine pV6 13 14 15 16 17 18 ?_
     refine pU1 19 ?_
     refine dN ?_
     try go_wp2
     go_meet
     case rel => exact ⟨_, (true), aQ, H', ⟨by have := HJ2.out; first | omega | exact Nat.le_refl _⟩, ⟨by refine rR ?_; exact Kd.R_mono dD.1 (fun _ hk => hk.1.2)⟩, ⟨by refine rR ?_; exact Kd.R_mono cS.1 (fun _ hk => hk.1.2)⟩, ⟨by refine rN ?_; exact Kd.N_mono aX.1 (fun _ hk => ⟨hk.1.2, ⟨hk.1.1.1, hk.1.1.2⟩⟩)⟩, ⟨rB b8.1⟩, ⟨hY⟩⟩
   case rest =>
    clear Mc
    try clear c1
    try clear c5
    obtain ⟨kq, KS, rfl, HA, HJ7, dE, cH, bU, b8, HB⟩ := hcut
    cases kq with
    | zero => exact absurd HA.out (by simp [laws_FnMoves.j1])
    | succ kj7 =>
     have H := HA.out
     clear HA
     simp only [laws_FnMoves.j1] at H
     refine tC H ?_ ?_ <;> clear H <;> intro zT H <;> subst zT
     ·obtain rfl := Option.some.inj H
      repeat clear H
      go_wp2
      go_ret
      exact ⟨eR, hY⟩
     ·have H' := am H
      repeat clear H
      go_wp2
      go_loopg [7] kj7 (fun kq v7 w' => ∃ (oK : Int), v7 = .int .i64 oK ∧ Aside0 (laws_FnMoves.l0 kq l1 eV oK eJ aN = some r) ∧ Aside0 (kq ≤ kj7) ∧ Aside0 (Kd.R Kd.string 9 w' w.heap.size (fun k_ => some k_ ≠ ((.slice m0 eJ.length lV) : Value).ownBlock) uY eV) ∧ Aside0 (Kd.R Kd.string 9 w' w.heap.size (fun k_ => some k_ ≠ (uY : Value).ownBlock) (.slice m0 eJ.length lV) eJ) ∧ Aside0 (Kd.N k56 56 w' w.heap.size (fun k_ => some k_ ≠ (uY : Value).ownBlock ∧ some k_ ≠ ((.slice m0 eJ.length lV) : Value).ownBlock ∧ k_ ≠ eW) (.slice mI aN.length m5) aN) ∧ Aside0 (w'.heap[eW]? = some (.cells #[(.slice m0 eJ.length lV), (.slice mI aN.length m5)] 31 (0, 0))) ∧ Aside0 (Below w.heap.size w w'))
      case atStart => exact ⟨(0), aQ, H', ⟨Nat.le_refl _⟩, ⟨rR dE.1⟩, ⟨rR cH.1⟩, ⟨rN bU.1⟩, ⟨rB b8.1⟩, ⟨hY⟩⟩
      case round =>
       clear H'
       try clear c1
       try clear c5
       try clear zT
       obtain ⟨oK, rfl, HA, HK3, dE, cH, bU, b8, HB⟩ := hrel
       cases gk with
       | zero => exact absurd HA.out (by simp [laws_FnMoves.l0])
       | succ k3 =>
        have H := HA.out
        clear HA
        simp only [laws_FnMoves.l0] at H
        have QU := am H
        clear H
        go_upto_region 8 with ((fail))
        go_cut [53] (fun pl wc => ∃ (kq : Nat) (F8 : Bool), pl = .bool F8 ∧ Aside0 (laws_FnMoves.j3 kq l1 eV oK F8 eJ aN = some r) ∧ Aside0 (kq ≤ k3) ∧ Aside0 (Kd.R Kd.string 9 wc w.heap.size (fun k_ => some k_ ≠ ((.slice m0 eJ.length lV) : Value).ownBlock) uY eV) ∧ Aside0 (Kd.R Kd.string 9 wc w.heap.size (fun k_ => some k_ ≠ (uY : Value).ownBlock) (.slice m0 eJ.length lV) eJ) ∧ Aside0 (Kd.N k56 56 wc w.heap.size (fun k_ => some k_ ≠ (uY : Value).ownBlock ∧ some k_ ≠ ((.slice m0 eJ.length lV) : Value).ownBlock ∧ k_ ≠ eW) (.slice mI aN.length m5) aN) ∧ Aside0 (wc.heap[eW]? = some (.cells #[(.slice m0 eJ.length lV), (.slice mI aN.length m5)] 31 (0, 0))) ∧ Aside0 (Below w.heap.size w wc))
        case first =>
         have H := QU.1
         clear QU
         refine ic H ?_ ?_ <;> clear H <;> intro zU H
         ·(first | rw [zU] | (simp only [i64_w, i32_w]; rw [zU]) | skip)
          obtain ⟨K8, VK, H⟩ := bd H
          have H' := am H
          repeat clear H
          have Ew := cz2 b8
          go_wp2_with (first | (go_at_call 22; refine cM (spec_ShareBookOk.calls k3 _ _ eJ _ _ aN K8 _ (pC (Kd.R_reads' cH.1).2.2) ((Kd.R_reads' cH.1).2.1) (pC (Kd.N_reads' bU.1).2.2) ((Kd.N_reads' bU.1).2.1) VK.out) ?_; rintro qg hb; replace dE := RB hD hb; replace cH := RB rC hb; replace bU := NE yJ hb; replace b8 := bB hZ hb; replace HB := bS hY hb; (try clear hb)))
          go_meet
          case rel => exact ⟨_, (K8), aQ, H', ⟨by have := HJ2.out; have := HJ7.out; have := HK3.out; first | omega | exact Nat.le_refl _⟩, ⟨rR dE.1⟩, ⟨rR cH.1⟩, ⟨rN bU.1⟩, ⟨rB b8.1⟩, ⟨hY⟩⟩
         ·(first | rw [zU] | (simp only [i64_w, i32_w]; rw [zU]) | skip)
          have H' := am H
          repeat clear H
          have Uz := cz2 b8
          go_wp2
          go_meet
          case rel => exact ⟨_, (false), aQ, H', ⟨by have := HJ2.out; have := HJ7.out; have := HK3.out; first | omega | exact Nat.le_refl _⟩, ⟨rR dE.1⟩, ⟨rR cH.1⟩, ⟨rN bU.1⟩, ⟨rB b8.1⟩, ⟨hY⟩⟩
        case rest =>
         clear QU
         try clear c1
         try clear c5
         try clear zT
         obtain ⟨kq, F8, rfl, HA, LJ, dE, cH, bU, b8, HB⟩ := hcut
         cases kq with
         | zero => exact absurd HA.out (by simp [laws_FnMoves.j3])
         | succ kj49 =>
          have H := HA.out
          clear HA
          simp only [laws_FnMoves.j3] at H
          refine tC H ?_ ?_ <;> clear H <;> intro Yn H <;> subst Yn
          obtain ⟨zV, H⟩ := cN H
          obtain ⟨P0, H⟩ := cN H
          obtain ⟨lJ, Th, H⟩ := bd H
          obtain ⟨nX, Dz, H⟩ := bd H
          by_cases JA : (lJ != ((nX.length : Int) == 0)) = true
          rw [if_pos JA] at H
          have ZD : (lJ != ((nX.length : Int) == 0)) = true := JA
          (try (have ZE : decide (lJ = ((nX.length : Int) == 0)) = false := by simpa using JA))
          (try (have ZF : (lJ == ((nX.length : Int) == 0)) = false := by simpa using JA))
          (try (have Ys : ¬ (lJ = ((nX.length : Int) == 0)) := by simpa using JA))
          clear JA
          obtain rfl := Option.some.inj H
          repeat clear H
          have qw := cz2 b8
          have wT : 0 ≤ (oK : Int) := oT
          have wU : oK < (aN.length : Int) := oT
          obtain ⟨gK, Q0, RK, Q1, RL, BE, xV, CD, CE, tY, tU, tZ, tV⟩ := at_T56 (Kd.N_reads' bU.1).2.2 oK wT wU
          cases BE
          obtain ⟨ce120, hce120, hMe120, hcc120⟩ := Kd.N_get bU.1 z56 oK wT (by first | exact wU | exact oT | (have e_ := (Kd.N_reads' bU.1).1; omega))
          obtain ⟨ua120_1, uc120_1, ua120_2, uc120_2, rfl, q9, pL, qA, pM⟩ := k56_openF hMe120
          have mO := hcc120 1 _ rfl
          rw [add_field _ _ 1 (by omega)] at mO
          replace mO := Option.some.inj (mO.symm.trans CD)
          injection mO with hva_ hvn_ hvc_
          rw [hva_] at pL
          rw [hvc_] at q9
          have kJ := am (show Kd.V Kd.string 9 _ w.heap.size _ _ ((rd_T56 aN oK).f1) from Kd.V_mk q9 pL)
          clear hva_ hvn_ hvc_ pL q9
          have mP := hcc120 2 _ rfl
          rw [add_field _ _ 2 (by omega)] at mP
          replace mP := Option.some.inj (mP.symm.trans CE)
          injection mP with hva_ hvn_ hvc_
          rw [hva_] at pM
          rw [hvc_] at qA
          have kK := am (show Kd.V Kd.string 9 _ w.heap.size _ _ ((rd_T56 aN oK).f2) from Kd.V_mk qA pM)
          clear hva_ hvn_ hvc_ pM qA
          clear hcc120 hce120
          have j8 := am tU
          have LF := am tY
          clear tU tY
          have j9 := am tV
          have LG := am tZ
          clear tV tZ
          replace wT := eq_true wT
          replace wU := eq_true wU
          rotate_left
          rw [if_neg JA] at H
          have ZD : (lJ != ((nX.length : Int) == 0)) = false := by simpa using JA
          (try (have ZE : decide (lJ = ((nX.length : Int) == 0)) = true := by simpa using JA))
          (try (have ZF : (lJ == ((nX.length : Int) == 0)) = true := by simpa using JA))
          clear JA
          have H' := am H
          repeat clear H
          have Vx := cz2 b8
          have wT : 0 ≤ (oK : Int) := oT
          have wU : oK < (aN.length : Int) := oT
          obtain ⟨gK, Q0, RK, Q1, RL, BE, xV, CD, CE, tY, tU, tZ, tV⟩ := at_T56 (Kd.N_reads' bU.1).2.2 oK wT wU
          cases BE
          obtain ⟨ce120, hce120, hMe120, hcc120⟩ := Kd.N_get bU.1 z56 oK wT (by first | exact wU | exact oT | (have e_ := (Kd.N_reads' bU.1).1; omega))
          obtain ⟨ua120_1, uc120_1, ua120_2, uc120_2, rfl, q9, pL, qA, pM⟩ := k56_openF hMe120
          have mO := hcc120 1 _ rfl
          rw [add_field _ _ 1 (by omega)] at mO
          replace mO := Option.some.inj (mO.symm.trans CD)
          injection mO with hva_ hvn_ hvc_
          rw [hva_] at pL
          rw [hvc_] at q9
          have kJ := am (show Kd.V Kd.string 9 _ w.heap.size _ _ ((rd_T56 aN oK).f1) from Kd.V_mk q9 pL)
          clear hva_ hvn_ hvc_ pL q9
          have mP := hcc120 2 _ rfl
          rw [add_field _ _ 2 (by omega)] at mP
          replace mP := Option.some.inj (mP.symm.trans CE)
          injection mP with hva_ hvn_ hvc_
          rw [hva_] at pM
          rw [hvc_] at qA
          have kK := am (show Kd.V Kd.string 9 _ w.heap.size _ _ ((rd_T56 aN oK).f2) from Kd.V_mk qA pM)
          clear hva_ hvn_ hvc_ pM qA
          clear hcc120 hce120
          have j8 := am tU
          have LF := am tY
          clear tU tY
          have j9 := am tV
          have LG := am tZ
          clear tV tZ
          replace wT := eq_true wT
          replace wU := eq_true wU
          rotate_left
          obtain ⟨⟨nY, oJ, uW⟩, iw, H⟩ := bd H
          dsimp only at H
          obtain ⟨F6, ix, H⟩ := bd H
          have H' := am H
          repeat clear H
          have zG := trivial
          rotate_left
          all_goals
           try go_wp2_with (first | ((with_reducible refine gC 58 ?_); revert zG; intro zG; refine cE (some 73) Try.func58 (spec_DrawShareWaits.calls kj49 _ _ l1 nY oJ uW _ (pB qX) sS.1 iw.out) ?_; rintro e gz ⟨CR, Di, rfl, bQ, gY, hb⟩; refine ⟨_, rfl, ?_⟩; have g6 := am (Kd.R_lower (Kd.R_new' (Kd.R_new' (Kd.R_mono (ok' := fun k_ => True) bQ (fun _ hk_ => trivial)) (Kd.R_lt hD)) (Kd.R_lt rC)) (below_size hY)); have o5 := am (Kd.N_lower (Kd.N_mono (ok' := fun k_ => some k_ ≠ (CR : Value).ownBlock ∧ some k_ ≠ (uY : Value).ownBlock ∧ some k_ ≠ (.slice m0 eJ.length lV : Value).ownBlock ∧ some k_ ≠ (.slice mI aN.length m5 : Value).ownBlock ∧ k_ ≠ eW) gY (fun k_ hk_ => ⟨hk_.2, (Kd.fresh' (Kd.R_lt hD) k_ hk_.1), (Kd.fresh' (Kd.R_lt rC) k_ hk_.1), (Kd.fresh' (Kd.N_lt yJ) k_ hk_.1), (fB hZ k_ hk_.1)⟩)) (below_size hY)); replace dE := am (Kd.R_elder' hD (Kd.R_base bQ) hb); replace cH := am (Kd.R_elder' rC (Kd.R_base bQ) hb); replace bU := am (Kd.N_mono (Kd.N_told (Kd.N_told (Kd.N_old yJ hb) (Kd.R_base bQ)) (Kd.N_base gY)) (fun _ h_ => h_.1)); replace b8 := bB hZ hb; replace HB := bS hY hb; (try clear hb); (try clear bQ); (try clear gY)) | ((with_reducible refine gD 9 ?_); revert zG; intro zG; (try (refine gate_guard (by rfl) ?_; dsimp only)); refine bX 9 #[.slice none 0 0, .slice none 0 0] 31 ?_; intro qI hg ia hbox hb; replace dE := RB hD hb; replace cH := RB rC hb; replace bU := am (Kd.N_below (Kd.N_elderB yJ qI (Nat.le_of_eq hg.symm)) hb); replace g6 := am (Kd.R_below (rR g6.1) hb); replace o5 := am (Kd.N_below (Kd.N_elderB (rN o5.1) qI (Nat.le_of_eq hg.symm)) hb); have mB := am hbox; have X9 := am (by rw [hg]; exact (below_size hY) : w.heap.size ≤ qI); have X2 := X9; replace HB := bS hY hb; have vK := nL hZ hg; have zK := nG hZ hg; replace b8 := bB hZ hb; clear hb hbox hg; obtain ⟨oE, nD, TW⟩ := Kd.R_slice g6.1; subst TW; have Xm := nZ1 zK vK; have YM := cz2 mB; obtain ⟨vE, sV, TX⟩ := Kd.N_slice o5.1; subst TX) | ((with_reducible refine gate_callee (f := 38) rfl ?_); revert zG; intro zG; refine goesL_ (some 78) rfl rfl Try.func38 (by kernel_rfl) rfl #[.agg #[.slice oE nY.length nD, .slice vE oJ.length sV], .string uW] rfl sE ?_; (with_reducible refine (impl_ShareWaits.calls kj49 _ _ nY _ _ oJ uW F6 _ ?side1 ?side2 ?side3 ?side4 ix.out).mono ?_); (case side1 => refine (Kd.R_reads' (e := 9) (base := w.heap.size) (ok := fun k_ => (some k_ ≠ (uY : Value).ownBlock ∧ some k_ ≠ (.slice m0 eJ.length lV : Value).ownBlock)) (n := nY.length) (c := nD) ?_).2.2; exact (by refine rR ?_; exact Kd.R_mono (fR (fR (tR g6 mB))) (fun _ hk => ⟨hk.1.1.2, hk.1.2⟩))); (case side2 => exact (Kd.R_reads' g6.1).2.1); (case side3 => refine (Kd.N_reads' (e := 56) (base := w.heap.size) (ok := fun k_ => ((some k_ ≠ (.slice oE nY.length nD : Value).ownBlock ∧ (some k_ ≠ (uY : Value).ownBlock ∧ (some k_ ≠ (.slice m0 eJ.length lV : Value).ownBlock ∧ (some k_ ≠ (.slice mI aN.length m5 : Value).ownBlock ∧ k_ ≠ eW)))) ∧ k_ ≠ qI)) (n := oJ.length) (c := sV) ?_).2.2; exact (by refine rN ?_; exact (Kd.N_mono (fN (fN (Kd.N_mono o5.1 (fun k_ hk => (⟨hk, hk.2⟩ : _ ∧ k_ ≠ qI))))) (fun _ h_ => h_.1)))); (case side4 => exact (Kd.N_reads' o5.1).2.1); rintro e ib ⟨HS, rfl, bQ, hb⟩; refine ⟨_, rfl, ?_⟩; replace bU := am (Kd.N_elder' (by refine rN ?_; exact (Kd.N_mono (fN (fN (Kd.N_mono bU.1 (fun k_ hk => (⟨hk, hk.2⟩ : _ ∧ k_ ≠ qI))))) (fun _ h_ => h_.1))) (Kd.R_base bQ) hb); replace o5 := am (Kd.N_elder' (by refine rN ?_; exact (Kd.N_mono (fN (fN (Kd.N_mono o5.1 (fun k_ hk => (⟨hk, hk.2⟩ : _ ∧ k_ ≠ qI))))) (fun _ h_ => h_.1))) (Kd.R_base bQ) hb); have FQ := am (Kd.R_lower (Kd.R_new' (Kd.R_new' (Kd.R_new' bQ (Kd.R_lt (by refine rR ?_; exact (Kd.R_mono (fR (fR (tR dE mB))) (fun _ h_ => h_.1))))) (Kd.R_lt (by refine rR ?_; exact (Kd.R_mono (fR (fR (tR cH mB))) (fun _ h_ => h_.1))))) (Kd.R_lt (by refine rR ?_; exact (Kd.R_mono (fR (fR (tR g6 mB))) (fun _ h_ => h_.1))))) (below_size DV)); replace dE := am (Kd.R_elder' (by refine rR ?_; exact (Kd.R_mono (fR (fR (tR dE mB))) (fun _ h_ => h_.1))) (Kd.R_base bQ) hb); replace cH := am (Kd.R_elder' (by refine rR ?_; exact (Kd.R_mono (fR (fR (tR cH mB))) (fun _ h_ => h_.1))) (Kd.R_base bQ) hb); replace g6 := am (Kd.R_elder' (by refine rR ?_; exact (Kd.R_mono (fR (fR (tR g6 mB))) (fun _ h_ => h_.1))) (Kd.R_base bQ) hb); replace b8 := am (blk_below (g := eW) (o := .cells #[.slice m0 eJ.length lV, .slice mI aN.length m5] 31 (0, 0)) (qF b8 vK) hb); replace mB := am (blk_below (g := qI) (o := .cells #[.slice oE nY.length nD, .slice vE oJ.length sV] 31 (0, 0)) (qP mB) hb); replace HB := bS DV hb; (try clear hb); (try clear hk); (try clear bQ)))
          ·replace dE := RD dE
           replace cH := RD cH
           replace bU := ND bU
           replace kJ := am (Kd.V_drew kJ.out)
           replace kK := am (Kd.V_drew kK.out)
           replace b8 := BD b8
           replace j8 := am (Kd.C_drew j8.1)
           replace j9 := am (Kd.C_drew j9.1)
           replace HB := am (below_drew1 HB.1)
           obtain ⟨jo, Ny, JL⟩ := Kd.R_slice dE.1
           (first | subst JL | (obtain ⟨f4_, f5_⟩ := sj JL; subst f4_; subst f5_))
           refine sT [] 9 (uA2 b8) (fun hHeld => ?_)
           refine with_tabW laws_FnMoves.tab11 laws_FnMoves.bits11 (fun HT_ HW_ => ?_)
           generalize wc.drew = si at dE cH bU kJ kK b8 j8 j9 HB hHeld ⊢
           refine pU3 0 1 4 ?_
           refine tK2 3 (some 65) ?_
           refine oN 2 (some 64) fun K hK => ?_
           refine gQ Try.func52 (laws_wHas.calls kj49 _ _ eV ((rd_T56 aN oK).f0) lJ _ (pC (Kd.R_reads' dE.1).2.2) ((Kd.R_reads' dE.1).2.1) Th.out) ?_
           rintro w' ⟨nd, rfl⟩
           refine nK hK (uA2 b8).1 fun hHeld => ?_
           clear hK K
           refine oN 5 (some 67) fun K hK => ?_
           refine gE Try.func38 (impl_ShareWaits.calls kj49 _ _ eJ _ _ aN ((rd_T56 aN oK).f0) nX _ (pC (Kd.R_reads' cH.1).2.2) ((Kd.R_reads' cH.1).2.1) (pC (Kd.N_reads' bU.1).2.2) ((Kd.N_reads' bU.1).2.1) Dz.out) ?_
           rintro e sk ⟨Rv, rfl, bQ, hb⟩
           refine ⟨_, rfl, ?_⟩
           replace bU := am (Kd.N_elder' yJ (Kd.R_base bQ) hb)
           replace kJ := am (Kd.V_elder' (rV kJ.out) (Kd.R_base bQ) hb)
           replace kK := am (Kd.V_elder' (rV kK.out) (Kd.R_base bQ) hb)
           have I7 := am (Kd.R_lower (Kd.R_new' (Kd.R_new' bQ (Kd.R_lt hD)) (Kd.R_lt rC)) (below_size hY))
           replace dE := am (Kd.R_elder' hD (Kd.R_base bQ) hb)
           replace cH := am (Kd.R_elder' rC (Kd.R_base bQ) hb)
           replace b8 := bB hZ hb
           replace j8 := am (Kd.C_below (by repeat (first | (with_reducible exact j8.1) | (with_reducible refine Kd.C_alloc ?_ _) | (with_reducible refine Kd.C_drewN ?_ _) | (with_reducible refine Kd.C_drew ?_) | exact j8.1)) hb)
           replace j9 := am (Kd.C_below (by repeat (first | (with_reducible exact j9.1) | (with_reducible refine Kd.C_alloc ?_ _) | (with_reducible refine Kd.C_drewN ?_ _) | (with_reducible refine Kd.C_drew ?_) | exact j9.1)) hb)
           replace HB := bS hY hb
           (try clear hb)
           (try clear hb2)
           (try clear hk)
           (try clear hi)
           (try clear bQ)
           obtain ⟨jp, mu, As⟩ := Kd.R_slice I7.1
           (first | subst As | (obtain ⟨f4_, f5_⟩ := sj As; subst f4_; subst f5_))
           refine nK hK (uA2 b8).1 fun hHeld => ?_
           clear hK K
           refine pU3 6 7 8 ?_
           refine dN ?_
           try go_wp2
           go_ret
           exact ⟨eR, hY⟩
          ·replace dE := RD dE
           replace cH := RD cH
           replace bU := ND bU
           replace kJ := am (Kd.V_drew kJ.out)
           replace kK := am (Kd.V_drew kK.out)
           replace b8 := BD b8
           replace j8 := am (Kd.C_drew j8.1)
           replace j9 := am (Kd.C_drew j9.1)
           replace HB := am (below_drew1 HB.1)
           obtain ⟨WY, ZZ, M9⟩ := Kd.R_slice dE.1
           (first | subst M9 | (obtain ⟨f4_, f5_⟩ := sj M9; subst f4_; subst f5_))
           refine sT [] 9 (uA2 b8) (fun hHeld => ?_)
           refine with_tabW laws_FnMoves.tab11 laws_FnMoves.bits11 (fun HT_ HW_ => ?_)
           generalize wc.drew = sm at dE cH bU kJ kK b8 j8 j9 HB hHeld ⊢
           refine pU3 0 1 4 ?_
           refine tK2 3 (some 65) ?_
           refine oN 2 (some 64) fun K hK => ?_
           refine gQ Try.func52 (laws_wHas.calls kj49 _ _ eV ((rd_T56 aN oK).f0) lJ _ (pC (Kd.R_reads' dE.1).2.2) ((Kd.R_reads' dE.1).2.1) Th.out) ?_
           rintro w' ⟨nd, rfl⟩
           refine nK hK (uA2 b8).1 fun hHeld => ?_
           clear hK K
           refine oN 5 (some 67) fun K hK => ?_
           refine gE Try.func38 (impl_ShareWaits.calls kj49 _ _ eJ _ _ aN ((rd_T56 aN oK).f0) nX _ (pC (Kd.R_reads' cH.1).2.2) ((Kd.R_reads' cH.1).2.1) (pC (Kd.N_reads' bU.1).2.2) ((Kd.N_reads' bU.1).2.1) Dz.out) ?_
           rintro e qj ⟨Rv, rfl, bQ, hb⟩
           refine ⟨_, rfl, ?_⟩
           replace bU := am (Kd.N_elder' yJ (Kd.R_base bQ) hb)
           replace kJ := am (Kd.V_elder' (rV kJ.out) (Kd.R_base bQ) hb)
           replace kK := am (Kd.V_elder' (rV kK.out) (Kd.R_base bQ) hb)
           have I7 := am (Kd.R_lower (Kd.R_new' (Kd.R_new' bQ (Kd.R_lt hD)) (Kd.R_lt rC)) (below_size hY))
           replace dE := am (Kd.R_elder' hD (Kd.R_base bQ) hb)
           replace cH := am (Kd.R_elder' rC (Kd.R_base bQ) hb)
           replace b8 := bB hZ hb
           replace j8 := am (Kd.C_below (by repeat (first | (with_reducible exact j8.1) | (with_reducible refine Kd.C_alloc ?_ _) | (with_reducible refine Kd.C_drewN ?_ _) | (with_reducible refine Kd.C_drew ?_) | exact j8.1)) hb)
           replace j9 := am (Kd.C_below (by repeat (first | (with_reducible exact j9.1) | (with_reducible refine Kd.C_alloc ?_ _) | (with_reducible refine Kd.C_drewN ?_ _) | (with_reducible refine Kd.C_drew ?_) | exact j9.1)) hb)
           replace HB := bS hY hb
           (try clear hb)
           (try clear hb2)
           (try clear hk)
           (try clear hi)
           (try clear bQ)
           obtain ⟨Lv, Nz, MA⟩ := Kd.R_slice I7.1
           (first | subst MA | (obtain ⟨f4_, f5_⟩ := sj MA; subst f4_; subst f5_))
           refine nK hK (uA2 b8).1 fun hHeld => ?_
           clear hK K
           refine pU3 6 7 8 ?_
           refine dN ?_
           try go_wp2
           go_roundg kj49
           case measure => have := HJ2.out; have := HJ7.out; have := HK3.out; have := LJ.out; omega
           case rel => exact ⟨(wrap64 (oK + 1)), aQ, H', ⟨by have := HJ2.out; have := HJ7.out; have := HK3.out; have := LJ.out; omega⟩, ⟨by refine rR ?_; exact Kd.R_mono dE.1 (fun _ hk => hk.1)⟩, ⟨by refine rR ?_; exact Kd.R_mono cH.1 (fun _ hk => hk.1)⟩, ⟨by refine rN ?_; exact Kd.N_mono bU.1 (fun _ hk => ⟨hk.1.1, ⟨hk.1.2.1, hk.1.2.2⟩⟩)⟩, ⟨rB b8.1⟩, ⟨hY⟩⟩
          ·go_loopg [12] kj49 (fun kq Dh w' => ∃ (AB : Int), Dh = .int .i64 AB ∧ Aside0 (laws_FnMoves.l1 kq uW F6 AB nY oJ = some r) ∧ Aside0 (kq ≤ kj49) ∧ Aside0 (Kd.R Kd.string 9 w' w.heap.size (fun k_ => some k_ ≠ ((.slice m0 eJ.length lV) : Value).ownBlock ∧ some k_ ≠ ((.slice oE nY.length nD) : Value).ownBlock) HS F6) ∧ Aside0 (Kd.R Kd.string 9 w' w.heap.size (fun k_ => some k_ ≠ (HS : Value).ownBlock ∧ some k_ ≠ ((.slice oE nY.length nD) : Value).ownBlock) (.slice m0 eJ.length lV) eJ) ∧ Aside0 (Kd.N k56 56 w' w.heap.size (fun k_ => some k_ ≠ (HS : Value).ownBlock ∧ some k_ ≠ ((.slice m0 eJ.length lV) : Value).ownBlock ∧ some k_ ≠ ((.slice oE nY.length nD) : Value).ownBlock ∧ some k_ ≠ ((.slice vE oJ.length sV) : Value).ownBlock ∧ k_ ≠ eW ∧ k_ ≠ qI) (.slice mI aN.length m5) aN) ∧ Aside0 (Kd.R Kd.string 9 w' w.heap.size (fun k_ => some k_ ≠ (HS : Value).ownBlock ∧ some k_ ≠ ((.slice m0 eJ.length lV) : Value).ownBlock) (.slice oE nY.length nD) nY) ∧ Aside0 (Kd.N k56 56 w' w.heap.size (fun k_ => some k_ ≠ (HS : Value).ownBlock ∧ some k_ ≠ ((.slice m0 eJ.length lV) : Value).ownBlock ∧ some k_ ≠ ((.slice mI aN.length m5) : Value).ownBlock ∧ some k_ ≠ ((.slice oE nY.length nD) : Value).ownBlock ∧ k_ ≠ eW ∧ k_ ≠ qI) (.slice vE oJ.length sV) oJ) ∧ Aside0 (w'.heap[eW]? = some (.cells #[(.slice m0 eJ.length lV), (.slice mI aN.length m5)] 31 (0, 0))) ∧ Aside0 (w'.heap[qI]? = some (.cells #[(.slice oE nY.length nD), (.slice vE oJ.length sV)] 31 (0, 0))) ∧ Aside0 (Below w.heap.size w w'))
           case atStart => exact ⟨(0), aQ, H', ⟨Nat.le_refl _⟩, ⟨by refine rR ?_; exact Kd.R_mono FQ.1 (fun _ hk => ⟨hk.1.2, hk.2⟩)⟩, ⟨by refine rR ?_; exact Kd.R_mono cH.1 (fun _ hk => ⟨hk.2, hk.1.2⟩)⟩, ⟨by refine rN ?_; exact Kd.N_mono bU.1 (fun _ hk => ⟨hk.2, ⟨hk.1.1.1.1.2.1, ⟨hk.1.1.1.2, ⟨hk.1.1.2, ⟨hk.1.1.1.1.2.2, hk.1.2⟩⟩⟩⟩⟩)⟩, ⟨by refine rR ?_; exact Kd.R_mono g6.1 (fun _ hk => ⟨hk.2, hk.1.2⟩)⟩, ⟨by refine rN ?_; exact Kd.N_mono o5.1 (fun _ hk => ⟨hk.2, ⟨hk.1.1.2.2.1, ⟨hk.1.1.2.2.2.1, ⟨hk.1.1.1, ⟨hk.1.1.2.2.2.2, hk.1.2⟩⟩⟩⟩⟩)⟩, ⟨rB b8.1⟩, ⟨rB mB.1⟩, ⟨DV⟩⟩
           case round =>
            clear H'
            try clear c1
            try clear c5
            try clear zT
            try clear Yn
            try clear YM
            obtain ⟨AB, rfl, HA, HK5, qW, cH, bU, mW, oR, b8, mB, HB⟩ := hrel
            cases gk with
            | zero => exact absurd HA.out (by simp [laws_FnMoves.l1])
            | succ k5 =>
             have H := HA.out
             clear HA
             simp only [laws_FnMoves.l1] at H
             refine ic H ?_ ?_ <;> clear H <;> intro ZJ H
             ·obtain ⟨ZK, H⟩ := cN H
              refine iq H ?_ ?_ <;> clear H <;> intro ru ZL Zd H
              ·obtain rfl := Option.some.inj H
               repeat clear H
               obtain ⟨y4, wP, H7⟩ := Kd.R_slice qW.1
               subst H7
               obtain ⟨YS, SN, MU, Qt, Rf⟩ := aS (am (Kd.R_reads' qW.1).2.2) b0 AB
               cases SN
               go_wp2
               go_ret
               exact ⟨eR, DV⟩
              ·have H' := am H
               repeat clear H
               obtain ⟨jr, Aa, F0⟩ := Kd.R_slice qW.1
               subst F0
               obtain ⟨YS, SN, MU, Qt, Rf⟩ := aS (am (Kd.R_reads' qW.1).2.2) b0 AB
               cases SN
               go_wp2
               go_roundg k5
               case measure => have := HJ2.out; have := HJ7.out; have := HK3.out; have := LJ.out; have := HK5.out; omega
               case rel => exact ⟨(wrap64 (AB + 1)), aQ, H', ⟨by have := HJ2.out; have := HJ7.out; have := HK3.out; have := LJ.out; have := HK5.out; omega⟩, ⟨rR qW.1⟩, ⟨rR cH.1⟩, ⟨rN bU.1⟩, ⟨rR mW.1⟩, ⟨rN oR.1⟩, ⟨rB b8.1⟩, ⟨rB mB.1⟩, ⟨DV⟩⟩
             ·obtain ⟨Cy, ja, H⟩ := bd H
              obtain ⟨CN, jb, H⟩ := bd H
              obtain rfl := Option.some.inj H
              repeat clear H
              obtain ⟨WZ, SF, H8⟩ := Kd.R_slice qW.1
              subst H8
              have lu := nZ1 zK vK
              have lv := cz2 mB
              go_wp2_with (first | ((with_reducible refine gC 37 ?_); refine cE (some 94) Try.func37 (spec_ShareWaits.calls k5 _ _ nY _ _ oJ uW Cy _ (pC (Kd.R_reads' mW.1).2.2) ((Kd.R_reads' mW.1).2.1) (pC (Kd.N_reads' oR.1).2.2) ((Kd.N_reads' oR.1).2.1) ja.out) ?_; rintro e st ⟨Dk, rfl, bQ, hb⟩; refine ⟨_, rfl, ?_⟩; replace bU := am (Kd.N_elder' yJ (Kd.R_base bQ) hb); replace oR := am (Kd.N_elder' (rN oR.1) (Kd.R_base bQ) hb); have k7 := am (Kd.R_lower (Kd.R_new' (Kd.R_new' (Kd.R_new' bQ (Kd.R_lt (rR qW.1))) (Kd.R_lt rC)) (Kd.R_lt (rR mW.1))) (below_size DV)); replace qW := am (Kd.R_elder' (rR qW.1) (Kd.R_base bQ) hb); replace cH := am (Kd.R_elder' rC (Kd.R_base bQ) hb); replace mW := am (Kd.R_elder' (rR mW.1) (Kd.R_base bQ) hb); replace b8 := bB hZ hb; replace mB := am (blk_below (g := qI) (o := .cells #[.slice oE nY.length nD, .slice vE oJ.length sV] 31 (0, 0)) (rB mB.1) hb); replace HB := bS DV hb; (try clear hb); (try clear bQ); obtain ⟨t1, tH, MC⟩ := Kd.R_slice k7.1; subst MC) | ((with_reducible refine gC 54 ?_); refine cQ (some 95) Try.func54 (laws_wTexts.calls k5 _ _ F6 _ _ Cy CN _ (pC (Kd.R_reads' qW.1).2.2) ((Kd.R_reads' qW.1).2.1) (pC (Kd.R_reads' k7.1).2.2) ((Kd.R_reads' k7.1).2.1) jb.out) ?_; rintro w' ⟨nd, rfl⟩))
              go_ret
              exact ⟨eR, DV⟩
def laws_FnMoves.Pure : Prop := ∀ (l0 : List Int) (l1 : List Int), l0.length ≤ maxLen → l0.length * 1 ≤ 140737488351232 → (∀ x ∈ l0, (Lit.int .u8 x).wf = true) → l1.length ≤ maxLen → l1.length * 1 ≤ 140737488351232 → (∀ x ∈ l1, (Lit.int .u8 x).wf = true) → ∃ k, laws_FnMoves.f k l0 l1 = some true
theorem laws_FnMoves.walk (P : laws_FnMoves.Pure) (a0 : Option Addr) (len0 cap0 : Nat) (z0 : List Int) (a1 : Option Addr) (len1 cap1 : Nat) (z1 : List Int) (w : World) (w0 : (a0 = none ∧ len0 = 0 ∧ cap0 = 0 ∧ z0 = []) ∨ ∃ x, a0 = some x ∧ len0 ≤ cap0 ∧ cap0 ≤ maxLen ∧ z0.length = cap0 ∧ (∀ i, i < z0.length → w.cell? (x.add i) = some (.int .u8 (z0.getD i 0))) ∧ ∀ n ∈ z0, (Lit.int .u8 n).wf = true) (y0 : len0 * 1 ≤ 140737488351232) (w1 : (a1 = none ∧ len1 = 0 ∧ cap1 = 0 ∧ z1 = []) ∨ ∃ x, a1 = some x ∧ len1 ≤ cap1 ∧ cap1 ≤ maxLen ∧ z1.length = cap1 ∧ (∀ i, i < z1.length → w.cell? (x.add i) = some (.int .u8 (z1.getD i 0))) ∧ ∀ n ∈ z1, (Lit.int .u8 n).wf = true) (y1 : len1 * 1 ≤ 140737488351232) :
  Calls Try.prog 16 #[.slice a0 len0 cap0, .slice a1 len1 cap1] w fun e w' => e = .returned (.bool true) ∧ Below w.heap.size w w' := by
 obtain ⟨l0, rfl, gL, hm0, nw, l7⟩ := ReadsInt.ofRowC w0
 obtain ⟨l1, rfl, qQ, hm1, Qh, sW⟩ := ReadsInt.ofRowC w1
 obtain ⟨k, h⟩ := P l0 l1 hm0 y0 nw hm1 y1 Qh
 refine (laws_FnMoves.calls k _ _ l0 _ _ l1 true w (Kd.C_of_reads (d := (0 : Int)) (h1 := fun _ => rfl) gL) l7 (Kd.C_of_reads (d := (0 : Int)) (h1 := fun _ => rfl) qQ) sW h).mono ?_
 rintro e w' ⟨rfl, hd⟩
 exact ⟨rfl, hd⟩
end Go.Proofs.Ytaofjgnhapnndaa.Q
namespace Go.Proofs.Ytaofjgnhapnndaa.Q
open Go.RowKit Go.Proofs.YtaofjgnhapnndaaW.PrintWords Go.Proofs.YtaofjgnhapnndaaW.PrintLast Go.Proofs.YtaofjgnhapnndaaW.PrintMore
set_option linter.unusedVariables false
set_option linter.unusedSimpArgs false
theorem wrap64_id (n : Int) (h : -9223372036854775808 ≤ n ∧ n ≤ 9223372036854775807) : wrap64 n = n := by unfold wrap64; omega
def wMark (l : List IB) : Nat := (l.map fun b => 1 + b.f1.length + b.f2.length).sum
theorem wMark_cons (b : IB) (r : List IB) : wMark (b :: r) = 1 + b.f1.length + b.f2.length + wMark r := by simp [wMark]
def atI (bs : List IB) (n : ByteArray) : Int := idxI (fun s => s.toList == n.toList) bs 0
theorem atI_lt {bs : List IB} {n : ByteArray} (h : ¬ atI bs n < 0) : ∃ a : Nat, atI bs n = (a : Int) ∧ a < bs.length ∧ (gB bs a).f0.toList = n.toList := by
 unfold atI idxI at h ⊢
 cases hf : findR (fun i => (gB bs i).f0.toList == n.toList) bs.length 0 with
 | none => rw [hf] at h; simp at h
 | some a =>
  obtain ⟨_, h2, h3⟩ := findR_lt hf
  exact ⟨a, rfl, h2, beq_iff_eq.mp h3⟩
theorem spec_l1At_ev (ts : List ByteArray) (bs : List IB) (n : ByteArray) (hl : bs.length ≤ 9223372036854775807) : Ev (fun k => spec_l1At.f k ts bs n) (atI bs n) := by
 unfold spec_l1At.f atI
 refine Ev.loop (f := fun k i => spec_l1At.l0 k n (i : Int) ts bs) (val := fun i => idxI (fun s => s.toList == n.toList) bs i) bs.length ?_ ?_ 0 (by omega)
 ·simp only [idxI_end]
  exact Ev.step (fun k => spec_l1At.l0.eq_2 n _ ts bs k) (Ev.neg (by omega) (Ev.ret rfl))
 intro i hi H
 simp only [idxI_step (fun s => s.toList == n.toList) hi]
 refine Ev.step (fun k => spec_l1At.l0.eq_2 n _ ts bs k) (Ev.pos (by omega) (Ev.pos (by omega) ?_))
 rw [rdB_cast, wrap_up hi hl]
 refine Ev.prop (fun h => Ev.ret (by rw [if_pos (beq_iff_eq.mpr h)])) (fun h => Ev.sub H (by rw [if_neg (fun e => h (beq_iff_eq.mp e))]))
def waitsL (bs : List IB) (a i : Nat) : List ByteArray := (filterR (fun q => !decide (q = a) && shareB (gB bs q).f1 (gB bs a).f2) bs.length i).map fun i => (gB bs i).f0
def waitsB (ts : List ByteArray) (bs : List IB) (n : ByteArray) : List ByteArray := if (bookB ts bs && !decide (atI bs n < 0)) = true then waitsL bs (atI bs n).toNat 0 else []
theorem waitsL_step {bs : List IB} {a i : Nat} (hi : i < bs.length) : waitsL bs a i = if (!decide (i = a) && shareB (gB bs i).f1 (gB bs a).f2) = true then (gB bs i).f0 :: waitsL bs a (i + 1) else waitsL bs a (i + 1) := by
 unfold waitsL; rw [filterR_step _ hi]; cases (!decide (i = a) && shareB (gB bs i).f1 (gB bs a).f2) <;> rfl
theorem waitsL_end (bs : List IB) (a : Nat) : waitsL bs a bs.length = [] := by unfold waitsL; rw [filterR_end]; rfl
theorem spec_ShareWaits_ev (ts : List ByteArray) (bs : List IB) (n : ByteArray) (ht : ts.length ≤ 9223372036854775807) (hl : bs.length ≤ 9223372036854775807) (hb : Bok bs) : Ev (fun k => spec_ShareWaits.f k ts bs n) (waitsB ts bs n) := by
 unfold spec_ShareWaits.f
 refine Ev.bind (spec_l1At_ev ts bs n hl) ?_
 by_cases hneg : atI bs n < 0
 ·have e : waitsB ts bs n = [] := by unfold waitsB; simp [hneg]
  rw [e]
  by_cases h0 : 0 < bs.length
  ·refine Ev.step (fun k => spec_ShareWaits.l0.eq_2 _ _ _ ts bs k) (Ev.pos (by omega) (Ev.neg (by omega) ?_))
   exact Ev.step (fun k => spec_ShareWaits.j1.eq_2 _ _ _ _ ts bs k) (Ev.neg (by simp) (Ev.ret rfl))
  refine Ev.step (fun k => spec_ShareWaits.l0.eq_2 _ _ _ ts bs k) (Ev.neg (by omega) ?_)
  exact Ev.step (fun k => spec_ShareWaits.j1.eq_2 _ _ _ _ ts bs k) (Ev.neg (by simp) (Ev.ret rfl))
 obtain ⟨a, ha, hlt, _⟩ := atI_lt hneg
 have b0 := hb.at_ hlt
 have go : ∀ (d i : Nat) (x : List ByteArray), bs.length - i = d → i ≤ bs.length → x.length ≤ i → Ev (fun k => spec_ShareWaits.l0 k x (a : Int) (i : Int) ts bs) (x ++ if bookB ts bs = true then waitsL bs a i else []) := by
  intro d
  induction d with
  | zero =>
   intro i x hd hi hx
   have e : i = bs.length := by omega
   refine Ev.step (fun k => spec_ShareWaits.l0.eq_2 x _ _ ts bs k) (Ev.neg (by omega) ?_)
   refine Ev.step (fun k => spec_ShareWaits.j1.eq_2 x _ _ _ ts bs k) (Ev.neg (by simp) (Ev.ret ?_))
   subst e
   rw [waitsL_end, ite_self, List.append_nil]
  | succ d ih =>
   intro i x hd hi hx
   have hli : i < bs.length := by omega
   refine Ev.step (fun k => spec_ShareWaits.l0.eq_2 x _ _ ts bs k) (Ev.pos (by omega) (Ev.pos (by omega) (Ev.bind (spec_ShareBookOk_ev ts bs ht hl hb) ?_)))
   refine Ev.step (fun k => spec_ShareWaits.j1.eq_2 x _ _ _ ts bs k) ?_
   refine Ev.test _ (fun h => ?_) (fun h => Ev.ret (by simp [h]))
   have h5 := book_five h
   rw [rdB_cast, rdB_cast, wrap_up hli hl, if_pos h, waitsL_step hli]
   refine Ev.prop (fun h2 => ?_) (fun h2 => Ev.pos (by omega) (Ev.pos (by omega) (Ev.pos (by omega) (Ev.pos (by omega) (Ev.bind (spec_l1Share_ev _ _ (hb.at_ hli).1 b0.2) ?_)))))
   ·refine Ev.sub (ih (i + 1) x (by omega) (by omega) (by omega)) ?_
    rw [if_pos h, if_neg (by simp [show i = a by omega])]
   ·have hne : decide (i = a) = false := decide_eq_false (by omega)
    refine Ev.test _ (fun h3 => Ev.pos (by omega) ?_) (fun h3 => ?_)
    ·refine Ev.sub (ih (i + 1) (x ++ [(gB bs i).f0]) (by omega) (by omega) (by simp; omega)) ?_
     rw [if_pos h, if_pos (by rw [hne, h3]; rfl), List.append_assoc]; rfl
    ·refine Ev.sub (ih (i + 1) x (by omega) (by omega) (by omega)) ?_
     rw [if_pos h, if_neg (by simp [h3])]
 rw [ha]
 refine Ev.sub (go bs.length 0 [] (by omega) (by omega) (by simp)) ?_
 unfold waitsB
 rw [ha, show decide ((a : Int) < 0) = false from decide_eq_false (by omega)]
 simp
theorem impl_ShareWaits_ev (ts : List ByteArray) (bs : List IB) (n : ByteArray) (ht : ts.length ≤ 9223372036854775807) (hl : bs.length ≤ 9223372036854775807) (hb : Bok bs) : Ev (fun k => impl_ShareWaits.f k ts bs n) (waitsB ts bs n) := by
 unfold impl_ShareWaits.f
 simp only [impl_ShareBook_at.f, Option.bind_some]
 refine Ev.bind (impl_ShareBookOk_ev ts bs ht hl hb) (Ev.test _ (fun h => ?_) (fun h => Ev.step (fun k => impl_ShareWaits.j0.eq_2 _ _ ts bs k) (Ev.pos rfl (Ev.ret (by simp [waitsB, h])))))
 have h5 := book_five h
 refine Ev.step (fun k => impl_ShareWaits.j0.eq_2 _ _ ts bs k) ?_
 change Ev (fun k => if decide (atI bs n < 0) = true then _ else impl_ShareWaits.l0 k (atI bs n) _ _ _ _ _ _) _
 by_cases hneg : atI bs n < 0
 ·exact Ev.pos (decide_eq_true hneg) (Ev.ret (by simp [waitsB, hneg]))
 refine Ev.neg (by simpa using hneg) ?_
 obtain ⟨a, ha, hlt, _⟩ := atI_lt hneg
 have go : ∀ (d i : Nat) (x : List ByteArray), bs.length - i = d → i ≤ bs.length → x.length ≤ i → Ev (fun k => impl_ShareWaits.l0 k (a : Int) x bs (bs.length : Int) (i : Int) ts bs) (x ++ waitsL bs a i) := by
  intro d
  induction d with
  | zero =>
   intro i x hd hi hx
   have e : i = bs.length := by omega
   refine Ev.step (fun k => impl_ShareWaits.l0.eq_2 _ x bs _ _ ts bs k) (Ev.neg (by omega) (Ev.ret ?_))
   subst e
   rw [waitsL_end, List.append_nil]
  | succ d ih =>
   intro i x hd hi hx
   have hli : i < bs.length := by omega
   refine Ev.step (fun k => impl_ShareWaits.l0.eq_2 _ x bs _ _ ts bs k) (Ev.pos (by omega) (Ev.pos (by omega) (Ev.pos (by omega) ?_)))
   rw [rdB_cast, rdB_cast, wrap_up hli hl, waitsL_step hli]
   refine Ev.prop (fun h2 => ?_) (fun h2 => Ev.pos (by omega) (Ev.pos (by omega) ?_))
   ·refine Ev.sub (ih (i + 1) x (by omega) (by omega) (by omega)) ?_
    rw [if_neg (by simp [show i = a by omega])]
   ·have hne : decide (i = a) = false := decide_eq_false (by omega)
    simp only [impl_common.f, Option.bind_some]
    refine Ev.test _ (fun h3 => Ev.pos (by omega) ?_) (fun h3 => ?_)
    ·refine Ev.sub (ih (i + 1) (x ++ [(gB bs i).f0]) (by omega) (by omega) (by simp; omega)) ?_
     rw [if_pos (by rw [hne, show shareB (gB bs i).f1 (gB bs a).f2 = true from h3]; rfl), List.append_assoc]; rfl
    ·refine Ev.sub (ih (i + 1) x (by omega) (by omega) (by omega)) ?_
     rw [if_neg (by simp [show shareB (gB bs i).f1 (gB bs a).f2 = false from h3])]
 rw [ha]
 refine Ev.sub (go bs.length 0 [] (by omega) (by omega) (by simp)) ?_
 unfold waitsB
 rw [ha, h, show decide ((a : Int) < 0) = false from decide_eq_false (by omega)]
 simp
theorem wMark_le : ∀ (bs : List LB), wMark (bs.map toB) ≤ bs.length + sumL bs
  | [] => by simp [wMark]
  | b :: r => by
    have h := wMark_le r
    rw [List.map_cons, wMark_cons, List.length_cons, show sumL (b :: r) = wL b + sumL r by simp [sumL]]
    have : (toB b).f1.length + (toB b).f2.length ≤ wL b := by unfold wL wS toB; simp only; omega
    omega
theorem filterR_len (P : Nat → Bool) (n i : Nat) : (filterR P n i).length ≤ n := by
 unfold filterR
 refine Nat.le_trans (List.length_filter_le _ _) ?_
 rw [List.length_range']; omega
theorem waitsB_len (ts : List ByteArray) (bs : List IB) (n : ByteArray) : (waitsB ts bs n).length ≤ bs.length := by
 unfold waitsB
 split
 ·unfold waitsL; rw [List.length_map]; exact filterR_len _ _ _
 simp
theorem movesB_len (ts : List ByteArray) (bs : List IB) : (movesB ts bs).length ≤ bs.length := by
 unfold movesB
 split
 ·unfold movesL; rw [List.length_map]; exact filterR_len _ _ _
 simp
abbrev EC := ByteArray × (Option Addr × Nat × Nat) × (Option Addr × Nat × Nat)
end Go.Proofs.Ytaofjgnhapnndaa.Q
