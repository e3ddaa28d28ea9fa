/- Texts that the row needs: words on memory and rows, the contracts of the functions it reaches, and the plain lemmas on what they compute. -/
import Derived.Test.YtaofjgnhapnndaaXkoaf
set_option maxHeartbeats 8000000
set_option maxRecDepth 100000
open Go.Proofs.YtaofjgnhapnndaaFko
namespace Go.Proofs.Ytaofjgnhapnndaa.Q
open Go.RowKit Go.Proofs.YtaofjgnhapnndaaW.PrintWords Go.Proofs.YtaofjgnhapnndaaW.PrintLast Go.Proofs.YtaofjgnhapnndaaW.PrintMore
set_option linter.unusedVariables false
set_option linter.unusedSimpArgs false
mutual
def bM.j0 : Nat → Bool → List Int → Int → List ByteArray → List (S56) → Int → ByteArray → Option (Int × ByteArray × List ByteArray × Int)
 | 0, _, _, _, _, _, _, _ => none
 | k + 1, h, c, d, e, a, g, i => if h = true then ((bE.f k c d (a.length : Int)).bind fun b => (if 0 ≤ b.1 then (if b.1 < (a.length : Int) then (bM.j1 k c b.2 e a g ((aC a b.1).f0)) else (none)) else (none))) else (bM.j1 k c d e a g i)
def bM.j1 : Nat → List Int → Int → List ByteArray → List (S56) → Int → ByteArray → Option (Int × ByteArray × List ByteArray × Int)
 | 0, _, _, _, _, _, _ => none
 | k + 1, e, g, b, a, h, d => (fT.f k b a d).bind fun c => (if c ≥ 0 then (if 0 ≤ c then (if c < (a.length : Int) then (bM.j2 k ((aC a c).f2) e g b a h d) else (none)) else (none)) else (bM.j2 k b e g b a h d))
def bM.j2 : Nat → List ByteArray → List Int → Int → List ByteArray → List (S56) → Int → ByteArray → Option (Int × ByteArray × List ByteArray × Int)
 | 0, _, _, _, _, _, _, _ => none
 | k + 1, c, b, i, d, e, g, h => (bE.f k b i 9).bind fun a => (if a.1 = 0 then (bM.j3 k c a.1 (a.1 == 0) b a.2 d e g h) else (if a.1 = 1 then (bM.j3 k c a.1 (a.1 == 1) b a.2 d e g h) else (bM.j3 k c a.1 (a.1 == 2) b a.2 d e g h)))
def bM.j4 : Nat → List Int → Int → Int → ByteArray → List ByteArray → Option (Int × ByteArray × List ByteArray × Int)
 | 0, _, _, _, _, _ => none
 | k + 1, c, i, d, e, b => (bE.f k c i 24).bind fun a => (if a.1 = 0 then ((fU.f k c a.2 (([(⟨#[]⟩ : ByteArray), (⟨#[97]⟩ : ByteArray), (⟨#[122, 122]⟩ : ByteArray), (⟨#[116, 117, 110]⟩ : ByteArray)] : List ByteArray))).bind fun g => (if b.length < 8796093022208 then (some (d, e, (b ++ [g.1]), g.2)) else (none))) else (if a.1 = 1 then ((fU.f k c a.2 (([(⟨#[]⟩ : ByteArray), (⟨#[65]⟩ : ByteArray), (⟨#[122, 122]⟩ : ByteArray)] : List ByteArray))).bind fun h => (some (d, h.1, b, h.2))) else (some (d, e, b, a.2))))
def bM.j3 : Nat → List ByteArray → Int → Bool → List Int → Int → List ByteArray → List (S56) → Int → ByteArray → Option (Int × ByteArray × List ByteArray × Int)
 | 0, _, _, _, _, _, _, _, _, _ => none
 | k + 1, d, e, l, a, b, m, p, n, c => if l = true then ((nQ.f).bind fun o => ((fU.f k a b o).bind fun g => ((gF.f k a g.2 m 2).bind fun h => (bM.j4 k a h.2 1 g.1 h.1)))) else (if e = 3 then ((gF.f k a b d 2).bind fun i => (bM.j4 k a i.2 3 c i.1)) else (if e = 4 then (bM.j4 k a b 4 c ([] : List ByteArray)) else ((gF.f k a b d 2).bind fun j => (bM.j4 k a j.2 n c j.1))))
end
def bM.f (k : Nat) (d4 : List Int) (hG : Int) (fY : List ByteArray) (mF : List (S56)) : Option (Int × ByteArray × List ByteArray × Int) := (nQ.f).bind fun c => ((fU.f k d4 hG c).bind fun a => (if (mF.length : Int) > 0 then ((bE.f k d4 a.2 8).bind fun b => (bM.j0 k (decide (b.1 > 0)) d4 b.2 fY mF 2 a.1)) else (bM.j0 k false d4 a.2 fY mF 2 a.1)))
def bM.T3 : Bool × List (List Nat × List Nat) := (true, [([], []), ([0], [0]), ([], []), ([], []), ([3], [3]), ([4], [4]), ([2, 5], [2, 5]), ([1, 6], [1, 6]), ([7], [7]), ([8], [8]), ([0, 1, 2, 3, 4, 5, 6, 7, 8, 9], []), ([10, 9, 6, 0, 1, 2, 3, 4, 5, 6, 7, 8, 9], [9, 10])])
def bM.B3 : List Nat := [0, 1, 0, 0, 8, 24, 60, 127, 255, 511, 1023, 2047]
theorem bM.tab3 : rtab .any (opsOf Try.f121 3) = bM.T3 := by kernel_rfl
theorem bM.Kq : kM bM.T3.2 bM.B3 = true := by kernel_rfl
def bM.T23 : Bool × List (List Nat × List Nat) := (true, [([], []), ([0], [0]), ([], []), ([], []), ([2, 3], [2, 3]), ([4], [4]), ([1, 5, 4], [1, 5]), ([0, 1, 2, 3, 4, 5, 6], []), ([7, 6, 6, 0, 1, 2, 3, 4, 5, 6], [6, 7])])
def bM.B23 : List Nat := [0, 1, 0, 0, 12, 28, 63, 127, 255]
theorem bM.wh : rtab .any (opsOf Try.f121 23) = bM.T23 := by kernel_rfl
theorem bM.ak : kM bM.T23.2 bM.B23 = true := by kernel_rfl
theorem bM.calls (k : Nat) (g : Nat) (d4 : List Int) (hG : Int) (y8 : Option Addr) (AC : Nat) (fY : List ByteArray) (xO : Option Addr) (xC : Nat) (mF : List (S56)) (r1 : Int) (r2 : ByteArray) (r3 : List ByteArray) (r4 : Int) (w0 w : World) (hI : aD w0 w g d4 hG) (hB : Below w0.heap.size w0 w) (XV : Kd.C Kd.string w y8 fY.length fY) (XO : fY.length ≤ AC) (hf1_0 : ∀ ad, y8 = some ad → 0 < fY.length → ad.block ≠ g) (N9 : ∀ W_, aW w W_ g none → Kd.C k56 W_ xO mF.length mF) (PU : mF.length ≤ xC) (h : bM.f k d4 hG fY mF = some (r1, r2, r3, r4)) :
  Calls Try.prog 121 #[.pointer (some ⟨g, 0, none⟩), .agg #[.slice y8 fY.length AC, .slice xO mF.length xC]] w fun e w' => ∃ v2_ : Value, e = .returned (.agg #[.int .i64 r1, .string r2, v2_]) ∧ Kd.R Kd.string 9 w' w.heap.size (fun _ => True) v2_ r3 ∧ aD w0 w' g d4 r4 ∧ Below w0.heap.size w0 w' ∧ aW w w' g none := by
 have hu31 := Try.underlying31
 have hu106 := Try.underlying106
 have WX := am XV
 have WV := am XO
 clear XV XO
 have uF := am N9
 have Io := am PU
 clear N9 PU
 have gJ := am hI
 have HK := am (aW.refl w g none)
 have HL := am hB.size
 clear hI
 have HW0 := am hB.size
 have HB := am hB
 clear hB
 unfold bM.f at h
 have H := h
 clear h
 obtain ⟨eK, A3, H⟩ := bd H
 obtain ⟨⟨fO, e5⟩, A4, H⟩ := bd H
 dsimp only at H
 have Zb := am H
 clear H
 go_enter Try.func121, Try.ntmps121
 go_upto_region 2 with (first | ((with_reducible refine gD 3 ?_); refine bX 3 #[.slice y8 fY.length AC, .slice xO mF.length xC] 31 ?_; intro aJ hg w6 hbox hb; replace HB := bS BJ hb; have a3 := am (hbox); have gH := am (QS : w.heap.size ≤ aJ); have iE := am (Nat.le_trans HW0.out (QS : w.heap.size ≤ aJ) : w0.heap.size ≤ aJ); replace HK := am (aW.trans (BK) (aW.of_below hb g none) (.inl rfl)); have l7 := am (by rw [hg]; exact Nat.ne_of_lt (aD.lt (show aD w0 _ g d4 hG from tH)) : g ≠ aJ); have fF := am (by rw [hg]; exact Nat.ne_of_gt (aD.lt (show aD w0 _ g d4 hG from tH)) : aJ ≠ g); replace gJ := am (aD.below (tH) hb); clear hb hbox hg) | ((with_reducible refine gD 4 ?_); refine bX 4 #[.int .i64 0, .string (⟨#[]⟩ : ByteArray), .slice none 0 0] 106 ?_; intro aX hg w7 hbox hb; replace HB := bS VZ hb; have aK := am (hbox); have mP := am (QR : w.heap.size ≤ aX); have nX := am (Nat.le_trans HW0.out (QR : w.heap.size ≤ aX) : w0.heap.size ≤ aX); replace HK := am (aW.trans (M9) (aW.of_below hb g none) (.inl rfl)); have dP := nL aQ hg; have dQ := nG aQ hg; replace a3 := bB aQ hb; have lZ := am (by rw [hg]; exact Nat.ne_of_lt (aD.lt (show aD w0 _ g d4 hG from CW)) : g ≠ aX); have hJ := am (by rw [hg]; exact Nat.ne_of_gt (aD.lt (show aD w0 _ g d4 hG from CW)) : aX ≠ g); replace gJ := am (aD.below (CW) hb); clear hb hbox hg) | ((with_reducible refine gC 132 ?_); refine cE (some 9) Try.func132 (nQ.calls  eK _ A3.out) ?_; rintro e w8 ⟨DU, rfl, hD, hb⟩; refine ⟨_, rfl, ?_⟩; have nS := am (Kd.cO hD (pJ (w := w) (g := g) (row := none) (F5))); replace a3 := bB aQ hb; replace aK := bB cA hb; replace HK := am (aW.trans (F5) (aW.of_below hb g none) (.inl rfl)); replace HB := bS xE hb; replace gJ := am (aD.below (qG) hb); (try clear hb); (try clear hD); obtain ⟨Ao9, co9, eo9⟩ := Kd.bN nS.1; subst eo9) | ((with_reducible refine gC 101 ?_); refine cQ (some 10) Try.func101 (fU.calls k g d4 hG _ _ eK fO e5 w0 _ ((qG)) ((xE)) (pC (Kd.aT nS.1).2.2) ((Kd.aT nS.1).2.1) (oO (aD.own_ne gJ.out nS.1 (by decide))) A4.out) ?_; rintro w10 ⟨hi, hb, hk⟩; replace a3 := kb aQ hk fF; replace aK := kb cA hk hJ; replace nS := am (Kd.aM (Kd.lQ (aD.apart (show aD w0 _ g d4 hG from qG) (KP) (by decide)) hk (fun _ h => h.2)) (fun _ h => h.1)); replace HK := am (aW.trans (F5) hk (.inl rfl)); replace HB := am (hb); replace gJ := am (hi); (try clear hb); (try clear hk); (try clear hi)) | ((with_reducible refine gD 5 ?_); refine bX 5 #[.int .i64 0, .string (⟨#[]⟩ : ByteArray), .slice none 0 0] 106 ?_; intro sM hg wm hbox hb; replace nS := am (Kd.jY (KP) hb); replace HB := bS xE hb; have gK := am (hbox); have D2 := am (Ti : w.heap.size ≤ sM); have ms := am (Nat.le_trans HW0.out (Ti : w.heap.size ≤ sM) : w0.heap.size ≤ sM); replace HK := am (aW.trans (F5) (aW.of_below hb g none) (.inl rfl)); have gY := nL aQ hg; have o1 := nG aQ hg; replace a3 := bB aQ hb; have iC := nL cA hg; have qN := nG cA hg; replace aK := bB cA hb; have xJ := am (by rw [hg]; exact Nat.ne_of_lt (aD.lt (show aD w0 _ g d4 e5 from qG)) : g ≠ sM); have o0 := am (by rw [hg]; exact Nat.ne_of_gt (aD.lt (show aD w0 _ g d4 e5 from qG)) : sM ≠ g); replace gJ := am (aD.below (qG) hb); clear hb hbox hg; have aGE := o1.1; have aH9 := gY.1; have aGF := qN.1; have aHA := iC.1; have aGG := o0.1; have aHB := xJ.1; obtain ⟨K0, K1, K2, K3, K4, K5⟩ := cz3 gK))
 (try simp only [Act.put, List.setIfInBounds_toArray, List.set_cons_zero, List.set_cons_succ])
 go_cut [20] (fun v20 wc => ∃ (kq : Nat) (Pe : Bool) (LC : Int), v20 = .bool Pe ∧ aA (bM.j0 kq Pe d4 LC fY mF 2 fO = some (r1, r2, r3, r4)) ∧ aA (kq ≤ k) ∧ aA (wc.heap[aJ]? = some (.cells #[(.slice y8 fY.length AC), (.slice xO mF.length xC)] 31 (0, 0))) ∧ aA (wc.heap[aX]? = some (.cells #[.int .i64 0, .string (⟨#[]⟩ : ByteArray), (.slice none 0 0)] 106 (0, 0))) ∧ aA (wc.heap[sM]? = some (.cells #[.int .i64 2, .string fO, (.slice none 0 0)] 106 (0, 0))) ∧ aA (aD w0 wc g d4 LC) ∧ aA (aW w wc g none) ∧ aA (Below w0.heap.size w0 wc))
 case first =>
  have H := Zb.1
  clear Zb
  by_cases U9 : (mF.length : Int) > 0
  ·rw [if_pos U9] at H
   have IE : decide (0 < (mF.length : Int)) = true := decide_eq_true U9
   have Kz : decide (0 < mF.length) = true := decide_eq_true (by omega)
   clear U9
   (first | rw [IE] | (simp only [mV, pE]; rw [IE]) | skip)
   obtain ⟨⟨DR, vD⟩, A17, H⟩ := bd H
   dsimp only at H
   have H' := am H
   clear H
   have aGH := dP.1
   have aHC := dQ.1
   have aGI := gY.1
   have aHD := o1.1
   have aGJ := fF.1
   have aHE := l7.1
   obtain ⟨Sg, Sh, zt, Sj⟩ := cz2 a3
   go_wp2_with (first | (go_at_call 100; refine cM (bE.calls k g d4 e5 8 DR vD w0 _ ((qY)) ((uQ)) A17.out) ?_; rintro Tx ⟨hi, hb, hk⟩; replace a3 := am (aW.blk hk (g' := aJ) (o := .cells #[.slice y8 fY.length AC, .slice xO mF.length xC] 31 (0, 0)) (by refine rB ?_; refine dY ?_ gY.1 _; refine rB ?_; refine dY ?_ gY.1 _; refine rB ?_; refine dY ?_ gY.1 _; refine rB ?_; exact a3.1) fF.1 (by simp)); replace aK := am (aW.blk hk (g' := aX) (o := .cells #[.int .i64 0, .string (⟨#[]⟩ : ByteArray), .slice none 0 0] 106 (0, 0)) (by refine rB ?_; refine dY ?_ iC.1 _; refine rB ?_; refine dY ?_ iC.1 _; refine rB ?_; refine dY ?_ iC.1 _; refine rB ?_; exact aK.1) hJ.1 (by simp)); replace nS := am (Kd.aM (Kd.lQ (aD.apart (show aD w0 _ g d4 e5 from qY) (by refine rR ?_; exact (Kd.aM (fR (fR (fR (tR nS gK)))) (fun _ h_ => h_.1))) (by decide)) hk (fun _ h => h.2)) (fun _ h => h.1)); replace gK := am (aW.blk hk (g' := sM) (o := .cells #[.int .i64 2, .string fO, .slice none 0 0] 106 (0, 0)) (by refine rB ?_; refine eH (cs := #[.int .i64 2, .string fO, .slice none 0 0]) ?_ 2 _ rfl; refine rB ?_; refine eH (cs := #[.int .i64 2, .string (⟨#[]⟩ : ByteArray), .slice none 0 0]) ?_ 1 _ rfl; refine rB ?_; refine eH (cs := #[.int .i64 0, .string (⟨#[]⟩ : ByteArray), .slice none 0 0]) ?_ 0 _ rfl; refine rB ?_; exact gK.1) o0.1 (by simp)); replace HK := am (aW.trans (q9) hk (.inl rfl)); replace HB := am (hb); replace gJ := am (hi); (try clear hb); (try clear hk); (try clear hi)))
   go_meet
   exact ⟨_, (decide (DR > 0)), (vD), (dH), H', ⟨by first | omega | exact Nat.le_refl _⟩, ⟨rB a3.1⟩, ⟨rB aK.1⟩, ⟨rB gK.1⟩, ⟨qY⟩, ⟨q9⟩, ⟨uQ⟩⟩
  rw [if_neg U9] at H
  have IE : decide (0 < (mF.length : Int)) = false := decide_eq_false U9
  have Kz : decide (0 < mF.length) = false := decide_eq_false (by omega)
  clear U9
  (first | rw [IE] | (simp only [mV, pE]; rw [IE]) | skip)
  have H' := am H
  clear H
  have aGK := dP.1
  have aHF := dQ.1
  have aGL := gY.1
  have aHG := o1.1
  have aGM := fF.1
  have aHH := l7.1
  obtain ⟨yo, yp, zu, zv⟩ := cz2 a3
  go_wp2
  go_meet
  exact ⟨_, (false), (e5), (dH), H', ⟨by first | omega | exact Nat.le_refl _⟩, ⟨by refine rB ?_; refine dY ?_ gY.1 _; refine rB ?_; refine dY ?_ gY.1 _; refine rB ?_; refine dY ?_ gY.1 _; refine rB ?_; exact a3.1⟩, ⟨by refine rB ?_; refine dY ?_ iC.1 _; refine rB ?_; refine dY ?_ iC.1 _; refine rB ?_; refine dY ?_ iC.1 _; refine rB ?_; exact aK.1⟩, ⟨by refine rB ?_; refine eH (cs := #[.int .i64 2, .string fO, .slice none 0 0]) ?_ 2 _ rfl; refine rB ?_; refine eH (cs := #[.int .i64 2, .string (⟨#[]⟩ : ByteArray), .slice none 0 0]) ?_ 1 _ rfl; refine rB ?_; refine eH (cs := #[.int .i64 0, .string (⟨#[]⟩ : ByteArray), .slice none 0 0]) ?_ 0 _ rfl; refine rB ?_; exact gK.1⟩, ⟨qY⟩, ⟨q9⟩, ⟨uQ⟩⟩
 clear Zb
 try clear K0 K1 K2 K3 K4 K5
 obtain ⟨kq, Pe, LC, rfl, HA, HJ4, a3, aK, gK, gJ, HK, HB⟩ := hcut
 cases kq with
 | zero => exact absurd HA.out (by simp [bM.j0])
 | succ kj4 =>
  have H := HA.out
  clear HA
  simp only [bM.j0] at H
  have Yy := am H
  clear H
  go_upto_if 20 with ((fail))
  go_cut [] (fun wc => ∃ (kq : Nat) (DV : Int) (jS : ByteArray), aA (bM.j1 kq d4 DV fY mF 2 jS = some (r1, r2, r3, r4)) ∧ aA (kq ≤ kj4) ∧ aA (wc.heap[aJ]? = some (.cells #[(.slice y8 fY.length AC), (.slice xO mF.length xC)] 31 (0, 0))) ∧ aA (wc.heap[aX]? = some (.cells #[.int .i64 0, .string (⟨#[]⟩ : ByteArray), (.slice none 0 0)] 106 (0, 0))) ∧ aA (wc.heap[sM]? = some (.cells #[.int .i64 2, .string jS, (.slice none 0 0)] 106 (0, 0))) ∧ aA (aD w0 wc g d4 DV) ∧ aA (aW w wc g none) ∧ aA (Below w0.heap.size w0 wc))
  case first =>
   have H := Yy.1
   clear Yy
   refine tC H ?_ ?_ <;> (repeat clear H) <;> intro c28 H <;> subst c28
   ·obtain ⟨⟨dD, l6⟩, A29, H⟩ := bd H
    dsimp only at H
    obtain ⟨MX, H⟩ := cN H
    (first | rw [MX] | (simp only [mV, pE]; rw [MX]) | skip)
    obtain ⟨Wa, H⟩ := cN H
    have H' := am H
    clear H
    try go_wp2
    replace a3 := am (eY a3.1)
    replace aK := am (eY aK.1)
    replace gK := am (eY gK.1)
    replace gJ := am (aD.drew gJ.out)
    replace HK := am (jO HK.out)
    replace HB := am (aV HB.1)
    have gr : 0 ≤ (dD : Int) := oT
    have ib : dD < (mF.length : Int) := oT
    obtain ⟨G6, Xo, al, Xp, ao, a7H, VG, VH, VI, En, Ef, Eo, Eg⟩ := x9 (Kd.E5 uF.1 HK.out) dD gr ib
    have a2R := VI
    have a2Q := VH
    have a2P := VG
    cases a7H
    have hne113_2 := (show (⟨(G6.add ((dD).toNat * 3)).block, (G6.add ((dD).toNat * 3)).off + 2, none⟩ : Addr).block ≠ g from by first | (rw [add_block]; exact Kd.sK uF.1 (by omega) (by decide)) | (show (Addr.add _ _).block ≠ _; rw [add_block]; exact Kd.sK uF.1 (by omega) (by decide)) | exact Kd.sK uF.1 (by omega) (by decide) | (dsimp only; exact Kd.sK uF.1 (by omega) (by decide)))
    have hlt113_2 := (Kd.UO uF.1 (by omega) (by decide))
    have hne113_1 := (show (⟨(G6.add ((dD).toNat * 3)).block, (G6.add ((dD).toNat * 3)).off + 1, none⟩ : Addr).block ≠ g from by first | (rw [add_block]; exact Kd.sK uF.1 (by omega) (by decide)) | (show (Addr.add _ _).block ≠ _; rw [add_block]; exact Kd.sK uF.1 (by omega) (by decide)) | exact Kd.sK uF.1 (by omega) (by decide) | (dsimp only; exact Kd.sK uF.1 (by omega) (by decide)))
    have hlt113_1 := (Kd.UO uF.1 (by omega) (by decide))
    have hne113_0 := (show ((G6.add ((dD).toNat * 3)) : Addr).block ≠ g from by first | (rw [add_block]; exact Kd.sK uF.1 (by omega) (by decide)) | (show (Addr.add _ _).block ≠ _; rw [add_block]; exact Kd.sK uF.1 (by omega) (by decide)) | exact Kd.sK uF.1 (by omega) (by decide) | (dsimp only; exact Kd.sK uF.1 (by omega) (by decide)))
    have hlt113_0 := (Kd.UO uF.1 (by omega) (by decide))
    have Qq := am Ef
    have xn := am En
    clear Ef En
    have Qr := am Eg
    have xo := am Eo
    clear Eg Eo
    replace gr := eq_true gr
    replace ib := eq_true ib
    refine sT (S := fun w' => w'.cell? ⟨aJ, 0, none⟩ = some (.slice y8 fY.length AC) ∧ w'.cell? ⟨aJ, 1, none⟩ = some (.slice (some G6) mF.length xC) ∧ w'.cell? (G6.add ((dD).toNat * 3)) = some (.string ((aC mF dD).f0)) ∧ w'.cell? ⟨(G6.add ((dD).toNat * 3)).block, (G6.add ((dD).toNat * 3)).off + 1, none⟩ = some (.slice Xo ((aC mF dD).f1).length al) ∧ w'.cell? ⟨(G6.add ((dD).toNat * 3)).block, (G6.add ((dD).toNat * 3)).off + 2, none⟩ = some (.slice Xp ((aC mF dD).f2).length ao)) [] 12 ⟨⟨(bF a3.1 0).trans rfl, (bF a3.1 1).trans rfl, VG, VH, VI⟩⟩ (fun hHeld => ?_); refine dZ bM.tab3 bM.Kq (fun HT_ HW_ => ?_)
    generalize wc.drew = w32 at a3 aK gK gJ HK HB Qq Qr VG VH VI hHeld ⊢
    refine pU 0 (some 21) ?_
    refine pU 2 (some 23) ?_
    refine pU 3 (some 24) ?_
    refine tK5 1 (some 22) ?_
    refine tK5 4 (some 25) ?_
    refine pU 5 (some 26) ?_
    refine oN 6 (some 27) fun K hK => ?_
    refine wF Try.func100 (by kernel_rfl) rfl #[.pointer (some ⟨g, 0, none⟩), .int .i64 (mF.length : Int)] (by rfl) rfl rfl (FO) ?_
    with_reducible refine (bE.calls kj4 g d4 LC (mF.length : Int) dD l6 w0 _ ?side1 ?side2 A29.out).mono ?_
    (case side1 => exact (qY))
    (case side2 => exact (uQ))
    rintro e Pv ⟨rfl, hi, hb, hk⟩
    have HS2_ := kC hk (hHeld.2.2.1) (by first | (rw [add_block]; exact hne113_0) | (show (Addr.add _ _).block ≠ _; rw [add_block]; exact hne113_0) | exact hne113_0)
    have HS3_ := kC hk (hHeld.2.2.2.1) (by first | (rw [add_block]; exact hne113_1) | (show (Addr.add _ _).block ≠ _; rw [add_block]; exact hne113_1) | exact hne113_1)
    have HS4_ := kC hk (hHeld.2.2.2.2) (by first | (rw [add_block]; exact hne113_2) | (show (Addr.add _ _).block ≠ _; rw [add_block]; exact hne113_2) | exact hne113_2)
    refine ⟨_, rfl, ?_⟩
    replace a3 := kb aQ hk fF
    replace aK := kb cA hk hJ
    replace gK := kb FL hk o0
    replace HK := am (aW.trans (q9) hk (.inl rfl))
    replace HB := am (hb)
    replace gJ := am (hi)
    (try clear hb)
    (try clear hb2)
    (try clear hk)
    (try clear hi)
    refine hK.out _ _ ⟨(bF a3.1 0).trans rfl, (bF a3.1 1).trans rfl, HS2_, HS3_, HS4_⟩ (fun hHeld => ?_)
    clear hK K
    refine nM ?_
    refine pU 7 (some 28) ?_
    refine pU 8 (some 29) ?_
    refine tK5 9 (some 30) ?_
    refine pU 10 (some 31) ?_
    refine oN 11 none fun K hK => ?_
    have aNK : Pv.cell? ⟨sM, 1, none⟩ = some (.string fO) := (bF gK.1 1).trans rfl
    have aG7 := fV gK.1 1
    have a2C := gY.1
    have a2D := iC.1
    have a0U := o1.1
    have a0V := qN.1
    refine wP (w1 := ?_) (by rfl) rfl ?_ ?_
    rotate_left
    ·go_simp
     rfl
    refine hK.out _ _ ⟨((cell_far (p := ⟨sM, _, none⟩) gY.1 _).trans (hHeld.1)), ((cell_far (p := ⟨sM, _, none⟩) gY.1 _).trans (hHeld.2.1)), ((cell_far (p := ⟨sM, _, none⟩) (by first | exact Nat.ne_of_lt (Nat.lt_of_lt_of_le hlt113_0 D2.out) | (rw [add_block]; exact Nat.ne_of_lt (Nat.lt_of_lt_of_le hlt113_0 D2.out)) | (show (Addr.add _ _).block ≠ _; rw [add_block]; exact Nat.ne_of_lt (Nat.lt_of_lt_of_le hlt113_0 D2.out)) | (dsimp only; exact Nat.ne_of_lt (Nat.lt_of_lt_of_le hlt113_0 D2.out))) _).trans (hHeld.2.2.1)), ((cell_far (p := ⟨sM, _, none⟩) (by first | exact Nat.ne_of_lt (Nat.lt_of_lt_of_le hlt113_1 D2.out) | (rw [add_block]; exact Nat.ne_of_lt (Nat.lt_of_lt_of_le hlt113_1 D2.out)) | (show (Addr.add _ _).block ≠ _; rw [add_block]; exact Nat.ne_of_lt (Nat.lt_of_lt_of_le hlt113_1 D2.out)) | (dsimp only; exact Nat.ne_of_lt (Nat.lt_of_lt_of_le hlt113_1 D2.out))) _).trans (hHeld.2.2.2.1)), ((cell_far (p := ⟨sM, _, none⟩) (by first | exact Nat.ne_of_lt (Nat.lt_of_lt_of_le hlt113_2 D2.out) | (rw [add_block]; exact Nat.ne_of_lt (Nat.lt_of_lt_of_le hlt113_2 D2.out)) | (show (Addr.add _ _).block ≠ _; rw [add_block]; exact Nat.ne_of_lt (Nat.lt_of_lt_of_le hlt113_2 D2.out)) | (dsimp only; exact Nat.ne_of_lt (Nat.lt_of_lt_of_le hlt113_2 D2.out))) _).trans (hHeld.2.2.2.2))⟩ (fun hHeld => ?_)
    clear hK K
    refine JY (UK HT_.out (by kernel_rfl)) ?_
    try go_wp2
    go_meet
    case rel => exact ⟨_, (l6), ((aC mF dD).f0), H', ⟨by have := HJ4.out; first | omega | exact Nat.le_refl _⟩, ⟨by refine rB ?_; refine dY ?_ gY.1 _; refine rB ?_; exact a3.1⟩, ⟨by refine rB ?_; refine dY ?_ iC.1 _; refine rB ?_; exact aK.1⟩, ⟨by refine rB ?_; refine eH (cs := #[.int .i64 2, .string fO, .slice none 0 0]) ?_ 1 _ rfl; refine rB ?_; exact gK.1⟩, ⟨qY⟩, ⟨q9⟩, ⟨uQ⟩⟩
   ·have H' := am H
    clear H
    go_wp2
    go_meet
    case rel => exact ⟨_, (LC), (fO), H', ⟨by have := HJ4.out; first | omega | exact Nat.le_refl _⟩, ⟨rB a3.1⟩, ⟨rB aK.1⟩, ⟨rB gK.1⟩, ⟨qY⟩, ⟨q9⟩, ⟨uQ⟩⟩
  case rest =>
   clear Yy
   try clear K0 K1 K2 K3 K4 K5
   obtain ⟨kq, DV, jS, HA, TS, a3, aK, gK, gJ, HK, HB⟩ := hcut
   cases kq with
   | zero => exact absurd HA.out (by simp [bM.j1])
   | succ kj26 =>
    have H := HA.out
    clear HA
    simp only [bM.j1] at H
    obtain ⟨L0, A35, H⟩ := bd H
    have Yz := am H
    clear H
    have aGN := dP.1
    have aHI := dQ.1
    have aGO := gY.1
    have aHJ := o1.1
    have aGP := fF.1
    have aHK := l7.1
    obtain ⟨UY, UZ, V8, V9⟩ := cz2 a3
    have aGQ := qN.1
    have aHL := iC.1
    have aGR := o0.1
    have aHM := xJ.1
    obtain ⟨V0, V1, V2, VA, VB, VC⟩ := cz3 gK
    go_upto_if 39 with (first | ((with_reducible refine gC 82 ?_); refine cQ (some 35) Try.func82 (fT.calls kj26 _ _ fY _ _ mF jS L0 _ (Kd.OV (⟨#[]⟩ : ByteArray) WX.1 (q9) hf1_0) WV.1 (Kd.E5 uF.1 (q9)) Io.1 A35.out) ?_; rintro lq hb; replace a3 := bB aQ hb; replace aK := bB cA hb; replace gK := bB FL hb; replace HK := am (aW.trans (q9) (aW.of_below hb g none) (.inl rfl)); replace HB := bS uQ hb; replace gJ := am (aD.below (qY) hb); (try clear hb); obtain ⟨V3, V4, VD, VE⟩ := cz2 a3))
    (try simp only [Act.put, List.setIfInBounds_toArray, List.set_cons_zero, List.set_cons_succ])
    go_cut [7] (fun v7 wc => ∃ (kq : Nat) (IV : List ByteArray), aA (bM.j2 kq IV d4 DV fY mF 2 jS = some (r1, r2, r3, r4)) ∧ aA (kq ≤ kj26) ∧ aA (∃ A_ c_, v7 = .slice A_ IV.length c_ ∧ Kd.C Kd.string w A_ IV.length IV ∧ IV.length ≤ c_ ∧ (∀ ad, A_ = some ad → 0 < IV.length → ad.block ≠ g)) ∧ aA (wc.heap[aJ]? = some (.cells #[(.slice y8 fY.length AC), (.slice xO mF.length xC)] 31 (0, 0))) ∧ aA (wc.heap[aX]? = some (.cells #[.int .i64 0, .string (⟨#[]⟩ : ByteArray), (.slice none 0 0)] 106 (0, 0))) ∧ aA (wc.heap[sM]? = some (.cells #[.int .i64 2, .string jS, (.slice none 0 0)] 106 (0, 0))) ∧ aA (aD w0 wc g d4 DV) ∧ aA (aW w wc g none) ∧ aA (Below w0.heap.size w0 wc))
    case first =>
     have H := Yz.1
     clear Yz
     by_cases Wd : L0 ≥ 0
     ·rw [if_pos Wd] at H
      have XB : decide (0 ≤ L0) = true := decide_eq_true Wd
      clear Wd
      (first | rw [XB] | (simp only [mV, pE]; rw [XB]) | skip)
      obtain ⟨aF9, H⟩ := cN H
      obtain ⟨rc, H⟩ := cN H
      have H' := am H
      clear H
      have aGS := dP.1
      have aHN := dQ.1
      have aGT := gY.1
      have aHO := o1.1
      have aGU := fF.1
      have aHP := l7.1
      obtain ⟨yq, yr, zw, zx⟩ := cz2 a3
      obtain ⟨aEL, a3M, a5U, a3N, a5V, a7I, a2V, a2W, Fa, yc, xp, yd, Qj, vf, vl⟩ := aT56 (am (Kd.E5 uF.1 HK.out)) b0 L0
      cases a7I
      go_wp2
      go_meet
      case rel => exact ⟨_, ((aC mF L0).f2), H', ⟨by have := HJ4.out; have := TS.out; first | omega | exact Nat.le_refl _⟩, ⟨⟨_, _, rfl, (PS uF.1 HK.out L0 (of_eq_true vf) (of_eq_true vl) Fa) w (aW.refl w g none), Qj.1, Mc (PS uF.1 HK.out L0 (of_eq_true vf) (of_eq_true vl) Fa)⟩⟩, ⟨rB a3.1⟩, ⟨rB aK.1⟩, ⟨rB gK.1⟩, ⟨qY⟩, ⟨q9⟩, ⟨uQ⟩⟩
     ·rw [if_neg Wd] at H
      have XB : decide (0 ≤ L0) = false := decide_eq_false Wd
      clear Wd
      (first | rw [XB] | (simp only [mV, pE]; rw [XB]) | skip)
      have H' := am H
      clear H
      go_wp2
      go_meet
      case rel => exact ⟨_, (fY), H', ⟨by have := HJ4.out; have := TS.out; first | omega | exact Nat.le_refl _⟩, ⟨⟨_, _, rfl, WX.1, WV.1, hf1_0⟩⟩, ⟨rB a3.1⟩, ⟨rB aK.1⟩, ⟨rB gK.1⟩, ⟨qY⟩, ⟨q9⟩, ⟨uQ⟩⟩
    case rest =>
     clear Yz
     try clear K0 K1 K2 K3 K4 K5
     try clear UY UZ V8 V9
     try clear V0 V1 V2 VA VB VC
     try clear V3 V4 VD VE
     obtain ⟨kq, IV, HA, ZF, HM7, a3, aK, gK, gJ, HK, HB⟩ := hcut
     obtain ⟨A7m, c7m, rfl, hr7m_, hc7m_, hf7m⟩ := HM7.out
     clear HM7
     have HR7m := am hr7m_
     have HC7m := am hc7m_
     clear hr7m_ hc7m_
     cases kq with
     | zero => exact absurd HA.out (by simp [bM.j2])
     | succ kj35 =>
      have H := HA.out
      clear HA
      simp only [bM.j2] at H
      obtain ⟨⟨QV, y4⟩, jv, H⟩ := bd H
      dsimp only at H
      have Zd := am H
      clear H
      go_upto_block 0 with (first | ((with_reducible refine gC 100 ?_); refine cQ (some 47) Try.func100 (bE.calls kj35 g d4 DV 9 QV y4 w0 _ ((qY)) ((uQ)) jv.out) ?_; rintro w55 ⟨hi, hb, hk⟩; replace a3 := kb aQ hk fF; replace aK := kb cA hk hJ; replace gK := kb FL hk o0; replace HK := am (aW.trans (q9) hk (.inl rfl)); replace HB := am (hb); replace gJ := am (hi); (try clear hb); (try clear hk); (try clear hi)))
      (try simp only [Act.put, List.setIfInBounds_toArray, List.set_cons_zero, List.set_cons_succ])
      go_cut [] (fun wc => ∃ (kq : Nat) (BE : Int) (oA : Int) (vF : ByteArray) (vG : List ByteArray) (L9 : Value), aA (bM.j4 kq d4 BE oA vF vG = some (r1, r2, r3, r4)) ∧ aA (kq ≤ kj35) ∧ aA (Kd.R Kd.string 9 wc w.heap.size (fun _ => True) L9 vG) ∧ aA (wc.heap[aJ]? = some (.cells #[(.slice y8 fY.length AC), (.slice xO mF.length xC)] 31 (0, 0))) ∧ aA (wc.heap[aX]? = some (.cells #[.int .i64 0, .string (⟨#[]⟩ : ByteArray), (.slice none 0 0)] 106 (0, 0))) ∧ aA (wc.heap[sM]? = some (.cells #[.int .i64 oA, .string vF, L9] 106 (0, 0))) ∧ aA (aD w0 wc g d4 BE) ∧ aA (aW w wc g none) ∧ aA (Below w0.heap.size w0 wc))
      case first =>
       have H := Zd.1
       clear Zd
       have Ze := am H
       clear H
       go_upto_if 52 with ((fail))
       go_cut [52] (fun v52 wc => ∃ (kq : Nat) (WN : Bool), v52 = .bool WN ∧ aA (bM.j3 kq IV QV WN d4 y4 fY mF 2 jS = some (r1, r2, r3, r4)) ∧ aA (kq ≤ kj35) ∧ aA (wc.heap[aJ]? = some (.cells #[(.slice y8 fY.length AC), (.slice xO mF.length xC)] 31 (0, 0))) ∧ aA (wc.heap[aX]? = some (.cells #[.int .i64 0, .string (⟨#[]⟩ : ByteArray), (.slice none 0 0)] 106 (0, 0))) ∧ aA (wc.heap[sM]? = some (.cells #[.int .i64 2, .string jS, (.slice none 0 0)] 106 (0, 0))) ∧ aA (aD w0 wc g d4 y4) ∧ aA (aW w wc g none) ∧ aA (Below w0.heap.size w0 wc))
       case first =>
        have H := Ze.1
        clear Ze
        refine iq H ?_ ?_ <;> clear H <;> intro c57 XD aFD H
        ·(first | rw [XD] | (simp only [mV, pE]; rw [XD]) | skip)
         have H' := am H
         clear H
         go_wp2
         go_meet
         case rel => exact ⟨_, ((QV == 0)), (dH), H', ⟨by have := HJ4.out; have := TS.out; have := ZF.out; first | omega | exact Nat.le_refl _⟩, ⟨rB a3.1⟩, ⟨rB aK.1⟩, ⟨rB gK.1⟩, ⟨qY⟩, ⟨q9⟩, ⟨uQ⟩⟩
        ·(first | rw [XD] | (simp only [mV, pE]; rw [XD]) | skip)
         refine iq H ?_ ?_ <;> clear H <;> intro c58 rj aFF H
         ·have H' := am H
          clear H
          go_wp2
          go_meet
          case rel => exact ⟨_, ((QV == 1)), (dH), H', ⟨by have := HJ4.out; have := TS.out; have := ZF.out; first | omega | exact Nat.le_refl _⟩, ⟨rB a3.1⟩, ⟨rB aK.1⟩, ⟨rB gK.1⟩, ⟨qY⟩, ⟨q9⟩, ⟨uQ⟩⟩
         ·have H' := am H
          clear H
          go_wp2
          go_meet
          case rel => exact ⟨_, ((QV == 2)), (dH), H', ⟨by have := HJ4.out; have := TS.out; have := ZF.out; first | omega | exact Nat.le_refl _⟩, ⟨rB a3.1⟩, ⟨rB aK.1⟩, ⟨rB gK.1⟩, ⟨qY⟩, ⟨q9⟩, ⟨uQ⟩⟩
       case rest =>
        clear Ze
        try clear K0 K1 K2 K3 K4 K5
        try clear UY UZ V8 V9
        try clear V0 V1 V2 VA VB VC
        try clear V3 V4 VD VE
        obtain ⟨kq, WN, rfl, HA, Qo, a3, aK, gK, gJ, HK, HB⟩ := hcut
        cases kq with
        | zero => exact absurd HA.out (by simp [bM.j3])
        | succ kj55 =>
         have H := HA.out
         clear HA
         simp only [bM.j3] at H
         rcases tf WN with yl | yl <;> subst yl
         ·replace H : ((nQ.f).bind fun wU => ((fU.f kj55 d4 y4 wU).bind fun Vp => ((gF.f kj55 d4 Vp.2 fY 2).bind fun Vq => (bM.j4 kj55 d4 Vq.2 1 Vp.1 Vq.1)))) = some (r1, r2, r3, r4) := iT H
          obtain ⟨wU, A60, H⟩ := bd H
          obtain ⟨⟨I0, uR⟩, A61, H⟩ := bd H
          dsimp only at H
          obtain ⟨⟨wQ, zI⟩, A62, H⟩ := bd H
          dsimp only at H
          have H' := am H
          clear H
          have aGV := o1.1
          have aHQ := gY.1
          have aGW := qN.1
          have aHR := iC.1
          have aGX := o0.1
          have aHS := xJ.1
          obtain ⟨yt, yu, yw, zy, zz, a00⟩ := cz3 gK
          go_wp2_with (first | ((with_reducible refine gC 132 ?_); refine cE (some 58) Try.func132 (nQ.calls  wU _ A60.out) ?_; rintro e w67 ⟨je, rfl, hD, hb⟩; refine ⟨_, rfl, ?_⟩; have xR := am (Kd.cO hD (pJ (w := w) (g := g) (row := none) (q9))); replace a3 := am (dL (g := aJ) (o := .cells #[.slice y8 fY.length AC, .slice xO mF.length xC] 31 (0, 0)) (by refine rB ?_; refine dY ?_ gY.1 _; refine rB ?_; exact a3.1) hb); replace aK := am (dL (g := aX) (o := .cells #[.int .i64 0, .string (⟨#[]⟩ : ByteArray), .slice none 0 0] 106 (0, 0)) (by refine rB ?_; refine dY ?_ iC.1 _; refine rB ?_; exact aK.1) hb); replace gK := am (dL (g := sM) (o := .cells #[.int .i64 1, .string jS, .slice none 0 0] 106 (0, 0)) (by refine rB ?_; refine eH (cs := #[.int .i64 2, .string jS, .slice none 0 0]) ?_ 0 _ rfl; refine rB ?_; exact gK.1) hb); replace HK := am (aW.trans (q9) (aW.of_below hb g none) (.inl rfl)); replace HB := bS uQ hb; replace gJ := am (aD.below (show aD w0 (wc.setCell ⟨sM, 0, none⟩ (.int .i64 1)) g d4 y4 from qY) hb); (try clear hb); (try clear hD); obtain ⟨Yl, bv, dm⟩ := Kd.bN xR.1; subst dm) | ((with_reducible refine gC 101 ?_); refine cQ (some 59) Try.func101 (fU.calls kj55 g d4 y4 _ _ wU I0 uR w0 _ ((qY)) ((uQ)) (pC (Kd.aT xR.1).2.2) ((Kd.aT xR.1).2.1) (oO (aD.own_ne gJ.out xR.1 (by decide))) A61.out) ?_; rintro w69 ⟨hi, hb, hk⟩; replace a3 := kb aQ hk fF; replace aK := kb cA hk hJ; replace gK := kb FL hk o0; replace xR := am (Kd.aM (Kd.lQ (aD.apart (show aD w0 _ g d4 y4 from qY) (rR xR.1) (by decide)) hk (fun _ h => h.2)) (fun _ h => h.1)); replace HK := am (aW.trans (q9) hk (.inl rfl)); replace HB := am (hb); replace gJ := am (hi); (try clear hb); (try clear hk); (try clear hi); obtain ⟨yx, yy, yz, a01, a02, a03⟩ := cz3 gK; have aGY := dP.1; have aHT := dQ.1; have aGZ := fF.1; have aHU := l7.1; obtain ⟨za, zb, a04, a05⟩ := cz2 a3) | ((with_reducible refine gC 109 ?_); refine cE (some 64) Try.func109 (gF.calls kj55 g d4 uR _ _ fY 2 wQ zI w0 _ ((qY)) ((uQ)) (Kd.OV (⟨#[]⟩ : ByteArray) WX.1 (q9) hf1_0) WV.1 hf1_0 A62.out) ?_; rintro e w74 ⟨Bn, rfl, hD, hi, hb, hk⟩; refine ⟨_, rfl, ?_⟩; replace a3 := am (aW.blk hk (g' := aJ) (o := .cells #[.slice y8 fY.length AC, .slice xO mF.length xC] 31 (0, 0)) (by refine rB ?_; refine dY ?_ gY.1 _; refine rB ?_; exact a3.1) fF.1 (by simp)); replace aK := am (aW.blk hk (g' := aX) (o := .cells #[.int .i64 0, .string (⟨#[]⟩ : ByteArray), .slice none 0 0] 106 (0, 0)) (by refine rB ?_; refine dY ?_ iC.1 _; refine rB ?_; exact aK.1) hJ.1 (by simp)); have sW := am (Kd.cO (Kd.eF hD (Kd.R_lt (by refine rR ?_; exact (Kd.aM (fR (tR xR gK)) (fun _ h_ => h_.1))))) (pJ (w := w) (g := g) (row := none) (q9))); replace xR := am (Kd.aM (Kd.EM (Kd.EL (aD.apart (show aD w0 _ g d4 uR from qY) (by refine rR ?_; exact (Kd.aM (fR (tR xR gK)) (fun _ h_ => h_.1))) (by decide)) hk) (Kd.bL hD)) (fun _ h_ => h_.1)); replace gK := am (aW.blk hk (g' := sM) (o := .cells #[.int .i64 1, .string I0, .slice none 0 0] 106 (0, 0)) (by refine rB ?_; refine eH (cs := #[.int .i64 1, .string jS, .slice none 0 0]) ?_ 1 _ rfl; refine rB ?_; exact gK.1) o0.1 (by simp)); replace HK := am (aW.trans (q9) hk (.inl rfl)); replace HB := am (hb); replace gJ := am (hi); (try clear hb); (try clear hk); (try clear hi); (try clear hD); obtain ⟨a4O, a6V, a8A⟩ := Kd.bN sW.1; subst a8A; obtain ⟨zc, zd, ze, a06, a07, a08⟩ := cz3 gK))
          go_meet
          case rel => exact ⟨_, (zI), (1), (I0), (wQ), (.slice a4O wQ.length a6V), H', ⟨by have := HJ4.out; have := TS.out; have := ZF.out; have := Qo.out; first | omega | exact Nat.le_refl _⟩, ⟨by refine rR ?_; exact Kd.aM (fR (tR sW gK)) (fun _ hk => trivial)⟩, ⟨by refine rB ?_; refine dY ?_ gY.1 _; refine rB ?_; exact a3.1⟩, ⟨by refine rB ?_; refine dY ?_ iC.1 _; refine rB ?_; exact aK.1⟩, ⟨by refine rB ?_; refine eH (cs := #[.int .i64 1, .string I0, .slice none 0 0]) ?_ 2 _ rfl; refine rB ?_; exact gK.1⟩, ⟨qY⟩, ⟨q9⟩, ⟨uQ⟩⟩
         ·replace H := iF H
          refine iq H ?_ ?_ <;> clear H <;> intro c77 aFM aFN H
          ·obtain ⟨⟨o9, wR⟩, A78, H⟩ := bd H
           dsimp only at H
           have H' := am H
           clear H
           have aH0 := o1.1
           have aHV := gY.1
           have aH1 := qN.1
           have aHW := iC.1
           have aH2 := o0.1
           have aHX := xJ.1
           obtain ⟨zf, zg, zh, a09, a0A, a0B⟩ := cz3 gK
           go_wp2_with (first | ((with_reducible refine gC 109 ?_); refine cE (some 71) Try.func109 (gF.calls kj55 g d4 y4 _ _ IV 2 o9 wR w0 _ ((qY)) ((uQ)) (Kd.OV (⟨#[]⟩ : ByteArray) HR7m.1 (q9) hf7m) HC7m.1 hf7m A78.out) ?_; rintro e wx ⟨I1, rfl, hD, hi, hb, hk⟩; refine ⟨_, rfl, ?_⟩; replace a3 := am (aW.blk hk (g' := aJ) (o := .cells #[.slice y8 fY.length AC, .slice xO mF.length xC] 31 (0, 0)) (by refine rB ?_; refine dY ?_ gY.1 _; refine rB ?_; exact a3.1) fF.1 (by simp)); replace aK := am (aW.blk hk (g' := aX) (o := .cells #[.int .i64 0, .string (⟨#[]⟩ : ByteArray), .slice none 0 0] 106 (0, 0)) (by refine rB ?_; refine dY ?_ iC.1 _; refine rB ?_; exact aK.1) hJ.1 (by simp)); replace gK := am (aW.blk hk (g' := sM) (o := .cells #[.int .i64 3, .string jS, .slice none 0 0] 106 (0, 0)) (by refine rB ?_; refine eH (cs := #[.int .i64 2, .string jS, .slice none 0 0]) ?_ 0 _ rfl; refine rB ?_; exact gK.1) o0.1 (by simp)); have lE := am (Kd.cO hD (pJ (w := w) (g := g) (row := none) (q9))); replace HK := am (aW.trans (q9) hk (.inl rfl)); replace HB := am (hb); replace gJ := am (hi); (try clear hb); (try clear hk); (try clear hi); (try clear hD); obtain ⟨QH, PN, Sa⟩ := Kd.bN lE.1; subst Sa; obtain ⟨zi, zj, zk, a0C, a0D, a0E⟩ := cz3 gK))
           go_meet
           case rel => exact ⟨_, (wR), (3), (jS), (o9), (.slice QH o9.length PN), H', ⟨by have := HJ4.out; have := TS.out; have := ZF.out; have := Qo.out; first | omega | exact Nat.le_refl _⟩, ⟨by refine rR ?_; exact Kd.aM (fR (tR lE gK)) (fun _ hk => trivial)⟩, ⟨by refine rB ?_; refine dY ?_ gY.1 _; refine rB ?_; exact a3.1⟩, ⟨by refine rB ?_; refine dY ?_ iC.1 _; refine rB ?_; exact aK.1⟩, ⟨by refine rB ?_; refine eH (cs := #[.int .i64 3, .string jS, .slice none 0 0]) ?_ 2 _ rfl; refine rB ?_; exact gK.1⟩, ⟨qY⟩, ⟨q9⟩, ⟨uQ⟩⟩
          ·refine iq H ?_ ?_ <;> clear H <;> intro c86 aFT aFU H
           ·have H' := am H
            clear H
            have aH3 := o1.1
            have aHY := gY.1
            have aH4 := qN.1
            have aHZ := iC.1
            have aH5 := o0.1
            have aI0 := xJ.1
            obtain ⟨zl, zm, zn, a0F, a0G, a0H⟩ := cz3 gK
            go_wp2
            go_meet
            case rel => exact ⟨_, (y4), (4), (jS), (([] : List ByteArray)), (.slice none 0 0), H', ⟨by have := HJ4.out; have := TS.out; have := ZF.out; have := Qo.out; first | omega | exact Nat.le_refl _⟩, ⟨by first | exact Kd.vJ _ _ _ _ _ | exact Kd.zV _ _ _ _ _ | exact Kd.zZ _ _ _ _ _ | exact Kd.zW _ _ _ _ _ | exact Kd.zY _ _ _ _ _⟩, ⟨by refine rB ?_; refine dY ?_ gY.1 _; refine rB ?_; exact a3.1⟩, ⟨by refine rB ?_; refine dY ?_ iC.1 _; refine rB ?_; exact aK.1⟩, ⟨by refine rB ?_; refine eH (cs := #[.int .i64 2, .string jS, .slice none 0 0]) ?_ 0 _ rfl; refine rB ?_; exact gK.1⟩, ⟨qY⟩, ⟨q9⟩, ⟨uQ⟩⟩
           ·obtain ⟨⟨YE, QX⟩, A91, H⟩ := bd H
            dsimp only at H
            have H' := am H
            clear H
            go_wp2_with (first | ((with_reducible refine gC 109 ?_); refine cE (some 50) Try.func109 (gF.calls kj55 g d4 y4 _ _ IV 2 YE QX w0 _ ((qY)) ((uQ)) (Kd.OV (⟨#[]⟩ : ByteArray) HR7m.1 (q9) hf7m) HC7m.1 hf7m A91.out) ?_; rintro e w92 ⟨jg, rfl, hD, hi, hb, hk⟩; refine ⟨_, rfl, ?_⟩; replace a3 := kb aQ hk fF; replace aK := kb cA hk hJ; replace gK := kb FL hk o0; have vY := am (Kd.cO hD (pJ (w := w) (g := g) (row := none) (q9))); replace HK := am (aW.trans (q9) hk (.inl rfl)); replace HB := am (hb); replace gJ := am (hi); (try clear hb); (try clear hk); (try clear hi); (try clear hD); obtain ⟨a4Y, a7F, a8E⟩ := Kd.bN vY.1; subst a8E; have aH6 := o1.1; have aI1 := gY.1; have aH7 := qN.1; have aI2 := iC.1; have aH8 := o0.1; have aI3 := xJ.1; obtain ⟨zo, zp, zq, a0I, a0J, a0K⟩ := cz3 gK))
            go_meet
            case rel => exact ⟨_, (QX), (2), (jS), (YE), (.slice a4Y YE.length a7F), H', ⟨by have := HJ4.out; have := TS.out; have := ZF.out; have := Qo.out; first | omega | exact Nat.le_refl _⟩, ⟨by refine rR ?_; exact Kd.aM (fR (tR vY gK)) (fun _ hk => trivial)⟩, ⟨by refine rB ?_; refine dY ?_ gY.1 _; refine rB ?_; exact a3.1⟩, ⟨by refine rB ?_; refine dY ?_ iC.1 _; refine rB ?_; exact aK.1⟩, ⟨by refine rB ?_; refine eH (cs := #[.int .i64 2, .string jS, .slice none 0 0]) ?_ 2 _ rfl; refine rB ?_; exact gK.1⟩, ⟨qY⟩, ⟨q9⟩, ⟨uQ⟩⟩
      case rest =>
       clear Zd
       try clear K0 K1 K2 K3 K4 K5
       try clear UY UZ V8 V9
       try clear V0 V1 V2 VA VB VC
       try clear V3 V4 VD VE
       obtain ⟨kq, BE, oA, vF, vG, L9, HA, aLE, k3, a3, aK, gK, gJ, HK, HB⟩ := hcut
       cases kq with
       | zero => exact absurd HA.out (by simp [bM.j4])
       | succ kj53 =>
        have H := HA.out
        clear HA
        simp only [bM.j4] at H
        obtain ⟨⟨Ol, Q9⟩, A98, H⟩ := bd H
        dsimp only at H
        refine iq H ?_ ?_ <;> clear H <;> intro c99 rr aG0 H
        obtain ⟨MK, MS⟩ := yv (([(⟨#[]⟩ : ByteArray), (⟨#[97]⟩ : ByteArray), (⟨#[122, 122]⟩ : ByteArray), (⟨#[116, 117, 110]⟩ : ByteArray)] : List ByteArray)); first | replace H := bW MS H | rw [← MS.1] at H
        obtain ⟨⟨Bj, aA0⟩, Xn, H⟩ := bd H
        dsimp only at H
        obtain ⟨Zi, H⟩ := cL H
        obtain ⟨FG, RO⟩ := yv (vG ++ [Bj]); first | replace H := bW RO H | rw [← RO.1] at H
        simp only [Option.some.injEq, Prod.mk.injEq] at H
        obtain ⟨rfl, rfl, rfl, rfl⟩ := H
        have Zp := trivial
        rotate_left
        refine iq H ?_ ?_ <;> clear H <;> intro aMN a5W a5X H
        obtain ⟨aB2, Dj⟩ := yv (([(⟨#[]⟩ : ByteArray), (⟨#[65]⟩ : ByteArray), (⟨#[122, 122]⟩ : ByteArray)] : List ByteArray)); first | replace H := bW Dj H | rw [← Dj.1] at H
        obtain ⟨⟨Ts, aA1⟩, a3O, H⟩ := bd H
        dsimp only at H
        simp only [Option.some.injEq, Prod.mk.injEq] at H
        obtain ⟨rfl, rfl, rfl, rfl⟩ := H
        have Zp := trivial
        have Qv := trivial
        rotate_left
        simp only [Option.some.injEq, Prod.mk.injEq] at H
        obtain ⟨rfl, rfl, rfl, rfl⟩ := H
        have oh := trivial
        rotate_left
        all_goals
         try go_wp2_with (first | ((with_reducible refine gC 100 ?_); revert Zp; intro Zp; refine cQ (some 77) Try.func100 (bE.calls kj53 g d4 BE 24 Ol Q9 w0 _ ((qY)) ((uQ)) A98.out) ?_; rintro wu ⟨hi, hb, hk⟩; replace k3 := am (Kd.aM (Kd.lQ (aD.apart (show aD w0 _ g d4 BE from qY) (NG) (by decide)) hk (fun _ h => h.2)) (fun _ h => h.1)); replace a3 := kb aQ hk fF; replace aK := kb cA hk hJ; replace gK := kb FL hk o0; replace HK := am (aW.trans (q9) hk (.inl rfl)); replace HB := am (hb); replace gJ := am (hi); (try clear hb); (try clear hk); (try clear hi)) | ((with_reducible refine jD (N := 91) rfl ?_); revert Qv; intro Qv; refine Kd.Dl Kd.string _ 9 ?hg (N := 91) ?hd (xs := ([(⟨#[]⟩ : ByteArray), (⟨#[65]⟩ : ByteArray), (⟨#[122, 122]⟩ : ByteArray)] : List ByteArray)) (inner := [.string (⟨#[]⟩ : ByteArray), .string (⟨#[65]⟩ : ByteArray), .string (⟨#[122, 122]⟩ : ByteArray)]) (ok := fun _ => True) (okp := fun _ => True) ?hr ?hp (fun _ hk => hk) trivial (Below.refl _ _) (Nat.le_refl _) (by simp) ?_; (case hd => rfl); (case hg => rfl); (case hr => first | (go_simp; done) | (go_simp; rfl)); (case hp => exact (Reps.one (show Kd.M Kd.string _ _ _ (⟨#[]⟩ : ByteArray) [.string (⟨#[]⟩ : ByteArray)] from rfl) (Reps.one (show Kd.M Kd.string _ _ _ (⟨#[65]⟩ : ByteArray) [.string (⟨#[65]⟩ : ByteArray)] from rfl) (Reps.one (show Kd.M Kd.string _ _ _ (⟨#[122, 122]⟩ : ByteArray) [.string (⟨#[122, 122]⟩ : ByteArray)] from rfl) (Reps.none _ _))))); intro aOB aII SG hb hg_ hnew_; clear hg_ hnew_; (first | rw [← Dj.out] at SG | (simp only [Int.reduceToNat] at SG; rw [← Dj.out] at SG)); have RC := am (Kd.cO (Kd.eF SG (Kd.R_lt (NG))) (pJ (w := w) (g := g) (row := none) (q9))); replace k3 := am (Kd.dJ (NG) (Kd.bL SG) hb); replace a3 := bB aQ hb; replace aK := bB cA hb; replace gK := bB FL hb; replace HK := am (aW.trans (q9) (aW.of_below hb g none) (.inl rfl)); replace HB := bS uQ hb; replace gJ := am (aD.below (qY) hb); clear hb SG; obtain ⟨a4K, a6Q, cm⟩ := Kd.bN RC.1; subst cm) | ((with_reducible refine gC 101 ?_); revert Qv; intro Qv; refine cQ (some 92) Try.func101 (fU.calls kj53 g d4 Q9 _ _ aB2 Ts aA1 w0 _ ((qY)) ((uQ)) (pC (Kd.aT RC.1).2.2) ((Kd.aT RC.1).2.1) (oO (aD.own_ne gJ.out RC.1 (by decide))) a3O.out) ?_; rintro aIJ ⟨hi, hb, hk⟩; replace k3 := am (Kd.aM (Kd.lQ (aD.apart (show aD w0 _ g d4 Q9 from qY) (NG) (by decide)) hk (fun _ h => h.2)) (fun _ h => h.1)); replace a3 := kb aQ hk fF; replace aK := kb cA hk hJ; replace gK := kb FL hk o0; replace RC := am (Kd.aM (Kd.lQ (aD.apart (show aD w0 _ g d4 Q9 from qY) (rR RC.1) (by decide)) hk (fun _ h => h.2)) (fun _ h => h.1)); replace HK := am (aW.trans (q9) hk (.inl rfl)); replace HB := am (hb); replace gJ := am (hi); (try clear hb); (try clear hk); (try clear hi); have a19 := o1.1; have a1J := gY.1; have a1A := qN.1; have a1K := iC.1; have a1B := o0.1; have a1L := xJ.1; obtain ⟨ka, kc, kd, kr, ks, kt⟩ := cz3 gK; have a1C := dQ.1; have a1M := dP.1; have a1D := hJ.1; have a1N := lZ.1; obtain ⟨ke, kf, kg, ku, kv, kw⟩ := cz3 aK; obtain ⟨Xy, bg, cn⟩ := Kd.bN k3.1; subst cn) | ((with_reducible refine gC 100 ?_); revert oh; intro oh; refine cQ (some 77) Try.func100 (bE.calls kj53 g d4 BE 24 Ol Q9 w0 _ ((qY)) ((uQ)) A98.out) ?_; rintro aIK ⟨hi, hb, hk⟩; replace k3 := am (Kd.aM (Kd.lQ (aD.apart (show aD w0 _ g d4 BE from qY) (NG) (by decide)) hk (fun _ h => h.2)) (fun _ h => h.1)); replace a3 := kb aQ hk fF; replace aK := kb cA hk hJ; replace gK := kb FL hk o0; replace HK := am (aW.trans (q9) hk (.inl rfl)); replace HB := am (hb); replace gJ := am (hi); (try clear hb); (try clear hk); (try clear hi); have a1E := o1.1; have a1O := gY.1; have a1F := qN.1; have a1P := iC.1; have a1G := o0.1; have a1Q := xJ.1; obtain ⟨ki, kj, km, kx, ky, la⟩ := cz3 gK; have a1H := dQ.1; have a1R := dP.1; have a1I := hJ.1; have a1S := lZ.1; obtain ⟨kn, ko, kp, lc, ld, le⟩ := cz3 aK; obtain ⟨Xz, bh, co⟩ := Kd.bN k3.1; subst co))
        ·replace k3 := am (Kd.nU k3.1)
         replace a3 := am (eY a3.1)
         replace aK := am (eY aK.1)
         replace gK := am (eY gK.1)
         replace gJ := am (aD.drew gJ.out)
         replace HK := am (jO HK.out)
         replace HB := am (aV HB.1)
         refine sT [8] 9 (uA3 gK) (fun hHeld => ?_); refine dZ bM.wh bM.ak (fun HT_ HW_ => ?_)
         generalize wu.drew = aOW at k3 a3 aK gK gJ HK HB hHeld ⊢
         refine pU 0 (some 80) ?_
         refine pU 2 (some 82) ?_
         refine tK3 1 (some 81) ?_
         refine oN 3 (some 83) fun K hK => ?_
         refine Kd.J3 Kd.string _ 9 ?hg (N := 83) ?hd (xs := ([(⟨#[]⟩ : ByteArray), (⟨#[97]⟩ : ByteArray), (⟨#[122, 122]⟩ : ByteArray), (⟨#[116, 117, 110]⟩ : ByteArray)] : List ByteArray)) (inner := [.string (⟨#[]⟩ : ByteArray), .string (⟨#[97]⟩ : ByteArray), .string (⟨#[122, 122]⟩ : ByteArray), .string (⟨#[116, 117, 110]⟩ : ByteArray)]) (ok := fun _ => True) (okp := fun _ => True) ?hr ?hp (fun _ hk => hk) trivial (Below.refl _ _) (Nat.le_refl _) (by simp) ?_; (case hd => rfl); (case hg => rfl); (case hr => first | (go_simp; done) | (go_simp; rfl)); (case hp => exact (Reps.one (show Kd.M Kd.string _ _ _ (⟨#[]⟩ : ByteArray) [.string (⟨#[]⟩ : ByteArray)] from rfl) (Reps.one (show Kd.M Kd.string _ _ _ (⟨#[97]⟩ : ByteArray) [.string (⟨#[97]⟩ : ByteArray)] from rfl) (Reps.one (show Kd.M Kd.string _ _ _ (⟨#[122, 122]⟩ : ByteArray) [.string (⟨#[122, 122]⟩ : ByteArray)] from rfl) (Reps.one (show Kd.M Kd.string _ _ _ (⟨#[116, 117, 110]⟩ : ByteArray) [.string (⟨#[116, 117, 110]⟩ : ByteArray)] from rfl) (Reps.none _ _))))))
         intro aAG wl SE hb hg_ hnew_
         clear hg_ hnew_
         (first | rw [← MS.out] at SE | (simp only [Int.reduceToNat] at SE; rw [← MS.out] at SE))
         have yO := am (Kd.cO (Kd.eF SE (Kd.R_lt (NG))) (pJ (w := w) (g := g) (row := none) (q9)))
         replace k3 := am (Kd.dJ (NG) (Kd.bL SE) hb)
         replace a3 := bB aQ hb
         replace aK := bB cA hb
         replace gK := bB FL hb
         replace HK := am (aW.trans (q9) (aW.of_below hb g none) (.inl rfl))
         replace HB := bS uQ hb
         replace gJ := am (aD.below (qY) hb)
         clear hb SE
         obtain ⟨lv, rt, Wj⟩ := Kd.bN yO.1
         (first | subst Wj | (injection Wj with f1_ f2_ f3_; have f4_ := f1_.symm; have f5_ := f3_.symm; clear f1_ f2_ f3_; subst f4_; subst f5_))
         refine hK.out _ _ (uA3 gK).1 (fun hHeld => ?_)
         clear hK K
         refine nM ?_
         refine oN 4 (some 84) fun K hK => ?_
         refine gQ Try.func101 (fU.calls kj53 g d4 Q9 _ _ MK Bj aA0 w0 _ ((qY)) ((uQ)) (pC (Kd.aT yO.1).2.2) ((Kd.aT yO.1).2.1) (oO (aD.own_ne gJ.out yO.1 (by decide))) Xn.out) ?_
         rintro aAN ⟨hi, hb, hk⟩
         replace k3 := am (Kd.aM (Kd.lQ (aD.apart (show aD w0 _ g d4 Q9 from qY) (NG) (by decide)) hk (fun _ h => h.2)) (fun _ h => h.1))
         replace a3 := kb aQ hk fF
         replace aK := kb cA hk hJ
         replace gK := kb FL hk o0
         replace yO := am (Kd.aM (Kd.lQ (aD.apart (show aD w0 _ g d4 Q9 from qY) (rR yO.1) (by decide)) hk (fun _ h => h.2)) (fun _ h => h.1))
         replace HK := am (aW.trans (q9) hk (.inl rfl))
         replace HB := am (hb)
         replace gJ := am (hi)
         (try clear hb)
         (try clear hb2)
         (try clear hk)
         (try clear hi)
         refine hK.out _ _ (uA3 gK).1 (fun hHeld => ?_)
         clear hK K
         refine nM ?_
         refine oN 5 (some 85) fun K hK => ?_
         refine yJ (w1 := ?_) (v := ?_) (by rfl) rfl ?_ ?_
         rotate_left 2
         ·go_simp
          constructor
          ·rfl
          ·rfl
         refine hK.out _ _ ⟨(bF (dE gK.1 _) 0).trans rfl, (bF (dE gK.1 _) 1).trans rfl, (bF (dE gK.1 _) 2).trans rfl⟩ (fun hHeld => ?_)
         clear hK K
         refine nM ?_
         refine oN 6 (some 86) fun K hK => ?_
         refine Kd.oI Kd.string w.heap.size (by rfl) (.tmp 81) (.tmp 85) 23 9 (.string ⟨#[]⟩) 16 rfl Try.underlying23 jT rfl (by decide) (by omega) L9 vG Bj [.string Bj] (fun k_ => some k_ ≠ (.slice lv MK.length rt : Value).ownBlock) (fun _ => False) rfl rfl ?aP (fun _ hk => hk.elim) ?aF ?aO (Below.refl _ _) ?aS ?aL ?_
         (case aP => exact rfl)
         (case aF => exact (fun k_ hk => Kd.fresh' (Kd.R_lt (rR yO.1)) k_ hk))
         (case aO => exact (by refine rR ?_; exact Kd.aM k3.1 (fun _ hk => hk.2)))
         (case aS => exact (pJ (w := w) (g := g) (row := none) (q9)))
         (case aL => have := Zi.out; omega)
         intro aO9 aAO ho hb hg hat
         rw [← RO.out] at ho
         replace a3 := gkR aQ hg k3 a3
         replace aK := gkR cA hg k3 aK
         replace gK := gkR FL hg k3 gK
         replace yO := am (Kd.gW (ok := (fun _ => True)) (rR yO.1) hg hat)
         replace HB := am (oF (uQ) HL.out hb)
         replace gJ := am (aD.grown (qY) hg (aD.own_ne gJ.out k3.1 (by decide)))
         replace HK := am (aW.trans (q9) (aW.qW hg g) (Kd.BS k3.1))
         have Uj := am (ho)
         clear k3
         clear ho hb hg hat
         obtain ⟨Ud, Wh, Wk⟩ := Kd.bN Uj.1
         (first | subst Wk | (injection Wk with f1_ f2_ f3_; have f4_ := f1_.symm; have f5_ := f3_.symm; clear f1_ f2_ f3_; subst f4_; subst f5_))
         refine hK.out _ _ (uA3 gK).1 (fun hHeld => ?_)
         clear hK K
         refine nM ?_
         refine pU 7 (some 87) ?_
         refine Ff (i := 8) (N := none) (bz 9 511) rfl rfl (Bb HT_.out (by kernel_rfl)) (by decide) (fun K hK => ?_)
         have aI7 : aAO.cell? ⟨sM, 2, none⟩ = some (L9) := (bF gK.1 2).trans rfl
         have a8P := fV gK.1 2
         have um := gY.1
         have un := iC.1
         have ug := o1.1
         have uh := qN.1
         refine wP (w1 := ?_) (by rfl) rfl ?_ ?_
         rotate_left
         ·go_simp
          rfl
         refine hK.out _ _ ?_
         clear hK K
         refine JY (UK HT_.out (by kernel_rfl)) ?_
         have a8V := o1.1
         have a90 := gY.1
         have a8W := qN.1
         have a92 := iC.1
         have a8X := o0.1
         have a94 := xJ.1
         obtain ⟨tl, tm, tn, tz, ua, ub⟩ := cz3 gK
         have a8Y := dQ.1
         have a95 := dP.1
         have a8Z := hJ.1
         have a96 := lZ.1
         obtain ⟨tp, tq, tr, uc, ud, ue⟩ := cz3 aK
         try go_wp2
         refine bodyPost_ret (results_cell_row rfl _ _ aX 106 #[.int .i64 oA, .string vF, .slice Ud FG.length Wh] (0, 0) _ rfl (by refine rB ?_; refine eH (cs := #[.int .i64 oA, .string vF, .slice none 0 0]) ?_ 2 _ rfl; refine rB ?_; refine eH (cs := #[.int .i64 oA, .string (⟨#[]⟩ : ByteArray), .slice none 0 0]) ?_ 1 _ rfl; refine rB ?_; refine eH (cs := #[.int .i64 0, .string (⟨#[]⟩ : ByteArray), .slice none 0 0]) ?_ 0 _ rfl; refine rB ?_; refine dY ?_ iC.1 _; refine rB ?_; exact aK.1) Try.underlying106 rfl (by kernel_rfl)) rfl ?_
         exact ⟨_, eR, by refine rR ?_; exact Kd.aM (fR (fR (fR (Kd.qO (p := ⟨sM, 2, none⟩) (Kd.fK (tR Uj gK) aK.1 (by decide)) (fun _ hk => hk.1.2) (.slice Ud FG.length Wh))))) (fun _ hk => trivial), qY, uQ, q9⟩
        ·refine bodyPost_ret (results_cell_row rfl _ _ aX 106 #[.int .i64 oA, .string Ts, .slice Xy vG.length bg] (0, 0) _ rfl (by refine rB ?_; refine eH (cs := #[.int .i64 oA, .string Ts, .slice none 0 0]) ?_ 2 _ rfl; refine rB ?_; refine eH (cs := #[.int .i64 oA, .string (⟨#[]⟩ : ByteArray), .slice none 0 0]) ?_ 1 _ rfl; refine rB ?_; refine eH (cs := #[.int .i64 0, .string (⟨#[]⟩ : ByteArray), .slice none 0 0]) ?_ 0 _ rfl; refine rB ?_; refine dY ?_ iC.1 _; refine rB ?_; exact aK.1) Try.underlying106 rfl (by kernel_rfl)) rfl ?_
         exact ⟨_, eR, by refine rR ?_; exact Kd.aM (fR (fR (fR (Kd.qO (p := ⟨sM, 1, none⟩) (Kd.fK (tR k3 gK) aK.1 (by decide)) (fun _ hk => hk.1.2) (.string Ts))))) (fun _ hk => trivial), qY, uQ, q9⟩
        ·refine bodyPost_ret (results_cell_row rfl _ _ aX 106 #[.int .i64 oA, .string vF, .slice Xz vG.length bh] (0, 0) _ rfl (by refine rB ?_; refine eH (cs := #[.int .i64 oA, .string vF, .slice none 0 0]) ?_ 2 _ rfl; refine rB ?_; refine eH (cs := #[.int .i64 oA, .string (⟨#[]⟩ : ByteArray), .slice none 0 0]) ?_ 1 _ rfl; refine rB ?_; refine eH (cs := #[.int .i64 0, .string (⟨#[]⟩ : ByteArray), .slice none 0 0]) ?_ 0 _ rfl; refine rB ?_; exact aK.1) Try.underlying106 rfl (by kernel_rfl)) rfl ?_
         exact ⟨_, eR, by refine rR ?_; exact Kd.aM (fR (fR (fR (tR k3 aK)))) (fun _ hk => trivial), qY, uQ, q9⟩
end Go.Proofs.Ytaofjgnhapnndaa.Q
namespace Go.Proofs.Ytaofjgnhapnndaa.Q
open Go.RowKit Go.Proofs.YtaofjgnhapnndaaW.PrintWords Go.Proofs.YtaofjgnhapnndaaW.PrintLast Go.Proofs.YtaofjgnhapnndaaW.PrintMore
set_option linter.unusedVariables false
set_option linter.unusedSimpArgs false
def fZ.l0 : Nat → List ByteArray → Int → List Int → Int → List ByteArray → Option (List ByteArray × (List (S56)) × Int)
 | 0, _, _, _, _, _ => none
 | k + 1, b, a, d, g, c => if a < (b.length : Int) then ((bE.f k d g 5).bind fun e => (if e.1 > 0 then (if 0 ≤ a then (if c.length < 8796093022208 then (fZ.l0 k b (wrap64 (a + 1)) d e.2 (c ++ [rdOf ByteArray.empty b a])) else (none)) else (none)) else (fZ.l0 k b (wrap64 (a + 1)) d e.2 c))) else (some (c, ([] : List (S56)), g))
def fZ.f (k : Nat) (d4 : List Int) (hG : Int) : Option (List ByteArray × (List (S56)) × Int) := fZ.l0 k (([(⟨#[106]⟩ : ByteArray), (⟨#[107, 101, 103]⟩ : ByteArray), (⟨#[116, 117, 110]⟩ : ByteArray), (⟨#[118, 97, 116]⟩ : ByteArray), (⟨#[119]⟩ : ByteArray)] : List ByteArray)) 0 d4 hG ([] : List ByteArray)
def fZ.T7 : Bool × List (List Nat × List Nat) := (true, [([], []), ([0], [0]), ([], []), ([], []), ([2, 3], [2, 3]), ([4], [4]), ([5], [5]), ([1, 6], [1, 6]), ([0, 1, 2, 3, 4, 5, 6, 7], []), ([8, 7, 7, 0, 1, 2, 3, 4, 5, 6, 7], [7, 8])])
def fZ.B7 : List Nat := [0, 1, 0, 0, 12, 28, 60, 127, 255, 511]
theorem fZ.tab7 : rtab .any (opsOf Try.f128 7) = fZ.T7 := by kernel_rfl
theorem fZ.uG : kM fZ.T7.2 fZ.B7 = true := by kernel_rfl
theorem fZ.calls (k : Nat) (g : Nat) (d4 : List Int) (hG : Int) (r1 : List ByteArray) (r2 : List (S56)) (r3 : Int) (w0 w : World) (hI : aD w0 w g d4 hG) (hB : Below w0.heap.size w0 w) (h : fZ.f k d4 hG = some (r1, r2, r3)) :
  Calls Try.prog 128 #[.pointer (some ⟨g, 0, none⟩)] w fun e w' => ∃ v0_ : Value, e = .returned (.agg #[v0_, .slice none 0 0]) ∧ Kd.R Kd.string 9 w' w.heap.size (fun _ => True) v0_ r1 ∧ aD w0 w' g d4 r3 ∧ Below w0.heap.size w0 w' ∧ aW w w' g none := by
 have hu31 := Try.underlying31
 have gJ := am hI
 have HK := am (aW.refl w g none)
 have HL := am hB.size
 clear hI
 have HW0 := am hB.size
 have HB := am hB
 clear hB
 unfold fZ.f at h
 have H := h
 clear h
 obtain ⟨I3, MQ⟩ := yv (([(⟨#[106]⟩ : ByteArray), (⟨#[107, 101, 103]⟩ : ByteArray), (⟨#[116, 117, 110]⟩ : ByteArray), (⟨#[118, 97, 116]⟩ : ByteArray), (⟨#[119]⟩ : ByteArray)] : List ByteArray)); first | replace H := bW MQ H | rw [← MQ.1] at H
 have H' := am H
 repeat clear H
 go_enter Try.func128, Try.ntmps128
 go_wp2_with (first | ((with_reducible refine gD 2 ?_); refine bX 2 #[.slice none 0 0, .slice none 0 0] 31 ?_; intro aJ hg w2 hbox hb; replace HB := bS BJ hb; have a3 := am hbox; have gH := am (QS : w.heap.size ≤ aJ); have iE := am (Nat.le_trans HW0.out (QS : w.heap.size ≤ aJ) : w0.heap.size ≤ aJ); replace HK := kU w g BK hb; have l7 := am (by rw [hg]; exact Nat.ne_of_lt (aD.lt (show aD w0 _ g d4 hG from tH)) : g ≠ aJ); have fF := am (by rw [hg]; exact Nat.ne_of_gt (aD.lt (show aD w0 _ g d4 hG from tH)) : aJ ≠ g); replace gJ := am (aD.below tH hb); clear hb hbox hg) | ((with_reducible refine gD 3 ?_); refine bX 3 #[.slice none 0 0, .slice none 0 0] 31 ?_; intro aX hg w3 hbox hb; replace HB := bS VZ hb; have aK := am hbox; have mP := am (QR : w.heap.size ≤ aX); have nX := am (Nat.le_trans HW0.out (QR : w.heap.size ≤ aX) : w0.heap.size ≤ aX); replace HK := kU w g M9 hb; have dP := nL aQ hg; have dQ := nG aQ hg; replace a3 := bB aQ hb; have lZ := am (by rw [hg]; exact Nat.ne_of_lt (aD.lt (show aD w0 _ g d4 hG from CW)) : g ≠ aX); have hJ := am (by rw [hg]; exact Nat.ne_of_gt (aD.lt (show aD w0 _ g d4 hG from CW)) : aX ≠ g); replace gJ := am (aD.below CW hb); clear hb hbox hg; have Z4 := nZ2 dQ dP hJ lZ; have Z6 := cz2 aK) | ((with_reducible refine jD (N := 7) rfl ?_); refine lS 9 7 MQ ?_; intro DU w7 ux hb; have nS := am (Kd.cO ux (kz w g F5)); replace a3 := am (dL (g := aJ) (o := .cells #[.slice none 0 0, .slice none 0 0] 31 (0, 0)) (qF a3 dP) hb); replace aK := am (dL (g := aX) (o := .cells #[.slice none 0 0, .slice none 0 0] 31 (0, 0)) vi hb); replace HK := kU w g F5 hb; replace HB := bS xE hb; replace gJ := am (aD.below (show aD w0 ((w3.setCell ⟨aX, 0, none⟩ (.slice none 0 0)).setCell ⟨aX, 1, none⟩ (.slice none 0 0)) g d4 hG from qG) hb); clear hb ux))
 go_loopg [5] k (fun kq v5 w' => ∃ (bV : Int) (n3 : Int) (xF : List ByteArray) (zJ : Value), v5 = .int .i64 bV ∧ aA (fZ.l0 kq I3 bV d4 n3 xF = some (r1, r2, r3)) ∧ aA (kq ≤ k) ∧ aA (Kd.R Kd.string 9 w' w.heap.size (fun k_ => some k_ ≠ (zJ : Value).ownBlock) DU I3) ∧ aA (Kd.R Kd.string 9 w' w.heap.size (fun k_ => some k_ ≠ (DU : Value).ownBlock) zJ xF) ∧ aA (w'.heap[aJ]? = some (.cells #[(.slice none 0 0), (.slice none 0 0)] 31 (0, 0))) ∧ aA (w'.heap[aX]? = some (.cells #[zJ, (.slice none 0 0)] 31 (0, 0))) ∧ aA (aD w0 w' g d4 n3) ∧ aA (aW w w' g none) ∧ aA (Below w0.heap.size w0 w'))
 case atStart => exact ⟨(0), (hG), (([] : List ByteArray)), (.slice none 0 0), dH, H', ⟨Nat.le_refl _⟩, ⟨by refine rR ?_; exact Kd.aM nS.1 (fun _ hk => (by simp [Value.ownBlock]))⟩, ⟨by first | exact Kd.vJ _ _ _ _ _ | exact Kd.zV _ _ _ _ _ | exact Kd.zZ _ _ _ _ _ | exact Kd.zW _ _ _ _ _ | exact Kd.zY _ _ _ _ _⟩, ⟨rB a3.1⟩, ⟨rB aK.1⟩, ⟨qG⟩, ⟨F5⟩, ⟨xE⟩⟩
 clear H'
 try clear Z6
 obtain ⟨bV, n3, xF, zJ, rfl, HA, HK1, lO, nY, a3, aK, gJ, HK, HB⟩ := hrel
 cases gk with
 | zero => exact absurd HA.out (by simp [fZ.l0])
 | succ k1 =>
  have H := HA.out
  clear HA
  simp only [fZ.l0] at H
  refine ic H ?_ ?_ <;> clear H <;> intro LY H
  obtain ⟨⟨fO, e5⟩, jr, H⟩ := bd H
  dsimp only at H
  by_cases Hv : fO > 0
  rw [if_pos Hv] at H
  have ID : decide (0 < fO) = true := decide_eq_true Hv
  clear Hv
  obtain ⟨MU, H⟩ := cN H
  obtain ⟨Ja, H⟩ := cL H
  obtain ⟨xa, Jp⟩ := yv (xF ++ [rdOf ByteArray.empty I3 bV]); first | replace H := bW Jp H | rw [← Jp.1] at H
  have H' := am H
  repeat clear H
  obtain ⟨DY, mW, Lw⟩ := Kd.bN lO.1
  subst Lw
  have Zq := trivial
  rotate_left
  rw [if_neg Hv] at H
  have ID : decide (0 < fO) = false := decide_eq_false Hv
  clear Hv
  have H' := am H
  repeat clear H
  obtain ⟨xP, o6, An⟩ := Kd.bN lO.1
  subst An
  have Zq := trivial
  rotate_left
  obtain ⟨rfl, rfl, rfl⟩ := sZ3 H
  repeat clear H
  obtain ⟨ma, rz, Rx⟩ := Kd.bN lO.1
  subst Rx
  have Z23 := nZ2 dQ dP hJ lZ
  have Z25 := cz2 aK
  obtain ⟨mb, sa, Ry⟩ := Kd.bN nY.1
  subst Ry
  have Z27 := nZ1 fF l7
  have Z28 := cz2 a3
  rotate_left
  all_goals
   try go_wp2_with (first | ((with_reducible refine gC 100 ?_); revert Zq; intro Zq; refine cQ (some 15) Try.func100 (bE.calls k1 g d4 n3 5 fO e5 w0 _ (qG) (xE) jr.out) ?_; rintro wv ⟨hi, hb, hk⟩; replace lO := iR qG DQ hk; replace nY := iR qG (rR nY.1) hk; replace a3 := kb aQ hk fF; replace aK := kb cA hk hJ; replace HK := kT w g F5 hk; replace HB := am hb; replace gJ := am hi; clear hb hk hi))
  ·replace lO := RD lO
   replace nY := RD nY
   replace a3 := BD a3
   replace aK := BD aK
   replace gJ := am (aD.drew gJ.out)
   replace HK := am (jO HK.out)
   replace HB := am (aV HB.1)
   obtain ⟨Dm, cd, OJ, a9E, a9R⟩ := aS (am (Kd.aT lO.1).2.2) b0 bV
   cases cd
   refine sT (S := fun w' => w'.cell? ⟨aX, 0, none⟩ = some (zJ) ∧ w'.cell? ⟨aX, 1, none⟩ = some (.slice none 0 0) ∧ w'.cell? (Dm.add (bV).toNat) = some (.string (rdOf ByteArray.empty I3 bV))) [7, 9] 10 ⟨⟨(bF aK.1 0).trans rfl, (bF aK.1 1).trans rfl, OJ⟩⟩ (fun hHeld => ?_)
   refine dZ fZ.tab7 fZ.uG (fun HT_ HW_ => ?_)
   generalize wv.drew = w16 at lO nY a3 aK gJ HK HB OJ hHeld ⊢
   refine pU4 0 2 3 4 ?_
   refine tK3 1 (some 18) ?_
   refine tK3 5 (some 22) ?_
   refine oN 6 (some 23) fun K hK => ?_
   refine yJ (w1 := ?_) (v := ?_) (by rfl) rfl ?_ ?_
   rotate_left 2
   ·go_simp
    constructor
    ·rfl
    ·rfl
   refine hK.out _ _ ⟨(bF (dE aK.1 _) 0).trans rfl, (bF (dE aK.1 _) 1).trans rfl, (World.cell?_alloc_lt _ _ _ (World.block_lt_of_cell? _ _ (hHeld.2.2))).trans (hHeld.2.2)⟩ (fun hHeld => ?_)
   clear hK K
   refine nM ?_
   refine lN 7 (some 24) fun K hK => ?_
   refine Kd.oI Kd.string w.heap.size (by rfl) (.tmp 18) (.tmp 23) 23 9 (.string ⟨#[]⟩) 16 rfl Try.underlying23 jT rfl (by decide) (by omega) zJ xF (rdOf ByteArray.empty I3 bV) [.string (rdOf ByteArray.empty I3 bV)] (fun k_ => some k_ ≠ (.slice (some Dm) I3.length mW : Value).ownBlock) (fun _ => False) rfl rfl ?aP (fun _ hk => hk.elim) ?aF ?aO (Below.refl _ _) ?aS ?aL ?_
   (case aP => exact rfl)
   (case aF => exact (fun k_ hk => Kd.fresh' (Kd.R_lt DQ) k_ hk))
   (case aO => exact (rR nY.1))
   (case aS => exact (kz w g F5))
   (case aL => have := Ja.out; omega)
   intro aAB Pu ho hb hg hat
   rw [← Jp.out] at ho
   replace lO := am (Kd.gW (ok := (fun _ => True)) (by refine rR ?_; exact Kd.aM lO.1 (fun _ hk => ⟨trivial, hk⟩)) hg hat)
   replace a3 := gkR aQ hg nY a3
   replace aK := gkR cA hg nY aK
   replace HB := am (oF xE HL.out hb)
   replace gJ := am (aD.grown qG hg (aD.own_ne gJ.out nY.1 (by decide)))
   replace HK := am (aW.trans F5 (aW.qW hg g) (Kd.BS nY.1))
   have FU := am ho
   clear nY
   clear ho hb hg hat
   obtain ⟨a4G, a6M, sk⟩ := Kd.bN FU.1
   (first | subst sk | (obtain ⟨f4_, f5_⟩ := sj sk; subst f4_; subst f5_))
   refine hK.out _ _ ?_
   clear hK K
   refine nM ?_
   refine pU1 8 ?_
   refine lN 9 none fun K hK => ?_
   have aNF : Pu.cell? ⟨aX, 0, none⟩ = some (zJ) := (bF aK.1 0).trans rfl
   have aG2 := fV aK.1 0
   have a1T := dP.1
   have a0L := dQ.1
   refine wP (w1 := ?_) (by rfl) rfl ?_ ?_
   rotate_left
   ·go_simp
    rfl
   refine hK.out _ _ ?_
   clear hK K
   refine dN ?_
   try go_wp2
   go_roundg k1
   case measure => have := HK1.out; omega
   case rel => exact ⟨(wrap64 (bV + 1)), (e5), (xa), (.slice a4G xa.length a6M), dH, H', ⟨by have := HK1.out; omega⟩, ⟨by refine rR ?_; exact Kd.aM (fR (tR lO aK)) (fun _ hk => hk.1.2)⟩, ⟨mR FU aK⟩, ⟨qF a3 dP⟩, ⟨by refine rB ?_; refine eH (cs := #[zJ, .slice none 0 0]) ?_ 0 _ rfl; refine rB ?_; exact aK.1⟩, ⟨qG⟩, ⟨F5⟩, ⟨xE⟩⟩
  ·go_roundg k1
   case measure => have := HK1.out; omega
   case rel => exact ⟨(wrap64 (bV + 1)), (e5), (xF), (zJ), dH, H', ⟨by have := HK1.out; omega⟩, ⟨rR lO.1⟩, ⟨rR nY.1⟩, ⟨rB a3.1⟩, ⟨rB aK.1⟩, ⟨qG⟩, ⟨F5⟩, ⟨xE⟩⟩
  ·refine cR aJ 31 #[.slice mb xF.length sa, .slice none 0 0] (qP a3) Try.underlying31 ?_
   exact ⟨_, eR, mR nY a3, qG, xE, F5⟩
end Go.Proofs.Ytaofjgnhapnndaa.Q
