/- Texts that the row needs: words on memory and rows, the contracts of the functions it reaches, and the plain lemmas on what they compute. -/
import Derived.Test.YtaofjgnhapnndaaXkmaf
set_option maxHeartbeats 8000000
set_option maxRecDepth 100000
open Go.Proofs.YtaofjgnhapnndaaFkm
namespace Go.Proofs.Ytaofjgnhapnndaa.Q
open Go.RowKit Go.Proofs.YtaofjgnhapnndaaW.PrintWords Go.Proofs.YtaofjgnhapnndaaW.PrintLast Go.Proofs.YtaofjgnhapnndaaW.PrintMore
set_option linter.unusedVariables false
set_option linter.unusedSimpArgs false
mutual
def spec_l5Does.j0 : Nat → Bool → List Int → Int → List ByteArray → List (S56) → Int → ByteArray → Option (Int × ByteArray × List ByteArray × Int)
 | 0, _, _, _, _, _, _, _ => none
 | k + 1, h, c, d, e, a, g, i => if h = true then ((spec_l1Rd_pick.f k c d (a.length : Int)).bind fun b => (if 0 ≤ b.1 then (if b.1 < (a.length : Int) then (spec_l5Does.j1 k c b.2 e a g ((rd_T56 a b.1).f0)) else (none)) else (none))) else (spec_l5Does.j1 k c d e a g i)
def spec_l5Does.j1 : Nat → List Int → Int → List ByteArray → List (S56) → Int → ByteArray → Option (Int × ByteArray × List ByteArray × Int)
 | 0, _, _, _, _, _, _ => none
 | k + 1, e, g, b, a, h, d => (spec_l1At.f k b a d).bind fun c => (if c ≥ 0 then (if 0 ≤ c then (if c < (a.length : Int) then (spec_l5Does.j2 k ((rd_T56 a c).f2) e g b a h d) else (none)) else (none)) else (spec_l5Does.j2 k b e g b a h d))
def spec_l5Does.j2 : Nat → List ByteArray → List Int → Int → List ByteArray → List (S56) → Int → ByteArray → Option (Int × ByteArray × List ByteArray × Int)
 | 0, _, _, _, _, _, _, _ => none
 | k + 1, c, b, i, d, e, g, h => (spec_l1Rd_pick.f k b i 9).bind fun a => (if a.1 = 0 then (spec_l5Does.j3 k c a.1 (a.1 == 0) b a.2 d e g h) else (if a.1 = 1 then (spec_l5Does.j3 k c a.1 (a.1 == 1) b a.2 d e g h) else (spec_l5Does.j3 k c a.1 (a.1 == 2) b a.2 d e g h)))
def spec_l5Does.j4 : Nat → List Int → Int → Int → ByteArray → List ByteArray → Option (Int × ByteArray × List ByteArray × Int)
 | 0, _, _, _, _, _ => none
 | k + 1, c, i, d, e, b => (spec_l1Rd_pick.f k c i 24).bind fun a => (if a.1 = 0 then ((spec_l1Rd_of.f k c a.2 (([(⟨#[]⟩ : ByteArray), (⟨#[97]⟩ : ByteArray), (⟨#[122, 122]⟩ : ByteArray), (⟨#[116, 117, 110]⟩ : ByteArray)] : List ByteArray))).bind fun g => (if b.length < 8796093022208 then (some (d, e, (b ++ [g.1]), g.2)) else (none))) else (if a.1 = 1 then ((spec_l1Rd_of.f k c a.2 (([(⟨#[]⟩ : ByteArray), (⟨#[65]⟩ : ByteArray), (⟨#[122, 122]⟩ : ByteArray)] : List ByteArray))).bind fun h => (some (d, h.1, b, h.2))) else (some (d, e, b, a.2))))
def spec_l5Does.j3 : Nat → List ByteArray → Int → Bool → List Int → Int → List ByteArray → List (S56) → Int → ByteArray → Option (Int × ByteArray × List ByteArray × Int)
 | 0, _, _, _, _, _, _, _, _, _ => none
 | k + 1, d, e, l, a, b, m, p, n, c => if l = true then ((spec_l5Names.f).bind fun o => ((spec_l1Rd_of.f k a b o).bind fun g => ((spec_l5Some.f k a g.2 m 2).bind fun h => (spec_l5Does.j4 k a h.2 1 g.1 h.1)))) else (if e = 3 then ((spec_l5Some.f k a b d 2).bind fun i => (spec_l5Does.j4 k a i.2 3 c i.1)) else (if e = 4 then (spec_l5Does.j4 k a b 4 c ([] : List ByteArray)) else ((spec_l5Some.f k a b d 2).bind fun j => (spec_l5Does.j4 k a j.2 n c j.1))))
end
def spec_l5Does.f (k : Nat) (aJ : List Int) (cV : Int) (cA : List ByteArray) (eI : List (S56)) : Option (Int × ByteArray × List ByteArray × Int) := (spec_l5Names.f).bind fun c => ((spec_l1Rd_of.f k aJ cV c).bind fun a => (if (eI.length : Int) > 0 then ((spec_l1Rd_pick.f k aJ a.2 8).bind fun b => (spec_l5Does.j0 k (decide (b.1 > 0)) aJ b.2 cA eI 2 a.1)) else (spec_l5Does.j0 k false aJ a.2 cA eI 2 a.1)))
def spec_l5Does.T3 : Bool × List (List Nat × List Nat) := (true, [([], []), ([0], [0]), ([], []), ([], []), ([3], [3]), ([4], [4]), ([2, 5], [2, 5]), ([1, 6], [1, 6]), ([7], [7]), ([8], [8]), ([0, 1, 2, 3, 4, 5, 6, 7, 8, 9], []), ([10, 9, 6, 0, 1, 2, 3, 4, 5, 6, 7, 8, 9], [9, 10])])
def spec_l5Does.B3 : List Nat := [0, 1, 0, 0, 8, 24, 60, 127, 255, 511, 1023, 2047]
theorem spec_l5Does.tab3 : rtab .any (opsOf Try.f121 3) = spec_l5Does.T3 := by kernel_rfl
theorem spec_l5Does.bits3 : waitsOk spec_l5Does.T3.2 spec_l5Does.B3 = true := by kernel_rfl
def spec_l5Does.T23 : Bool × List (List Nat × List Nat) := (true, [([], []), ([0], [0]), ([], []), ([], []), ([2, 3], [2, 3]), ([4], [4]), ([1, 5, 4], [1, 5]), ([0, 1, 2, 3, 4, 5, 6], []), ([7, 6, 6, 0, 1, 2, 3, 4, 5, 6], [6, 7])])
def spec_l5Does.B23 : List Nat := [0, 1, 0, 0, 12, 28, 63, 127, 255]
theorem spec_l5Does.tab23 : rtab .any (opsOf Try.f121 23) = spec_l5Does.T23 := by kernel_rfl
theorem spec_l5Does.bits23 : waitsOk spec_l5Does.T23.2 spec_l5Does.B23 = true := by kernel_rfl
theorem spec_l5Does.calls (k : Nat) (g : Nat) (aJ : List Int) (cV : Int) (lZ : Option Addr) (nA : Nat) (cA : List ByteArray) (lQ : Option Addr) (lE : Nat) (eI : List (S56)) (r1 : Int) (r2 : ByteArray) (r3 : List ByteArray) (r4 : Int) (w0 w : World) (hI : IsS103 w0 w g aJ cV) (hB : Below w0.heap.size w0 w) (DQ : Kd.C Kd.string w lZ cA.length cA) (DL : cA.length ≤ nA) (hf1_0 : ∀ ad, lZ = some ad → 0 < cA.length → ad.block ≠ g) (wM : ∀ W_, KeepBut w W_ g none → Kd.C k56 W_ lQ eI.length eI) (yI : eI.length ≤ lE) (h : spec_l5Does.f k aJ cV cA eI = some (r1, r2, r3, r4)) :
  Calls Try.prog 121 #[.pointer (some ⟨g, 0, none⟩), .agg #[.slice lZ cA.length nA, .slice lQ eI.length lE]] w fun e w' => ∃ v2_ : Value, e = .returned (.agg #[.int .i64 r1, .string r2, v2_]) ∧ Kd.R Kd.string 9 w' w.heap.size (fun _ => True) v2_ r3 ∧ IsS103 w0 w' g aJ r4 ∧ Below w0.heap.size w0 w' ∧ KeepBut w w' g none := by
 have hu31 := Try.underlying31
 have hu106 := Try.underlying106
 have D2 := am DQ
 have D0 := am DL
 clear DQ DL
 have jH := am wM
 have I5 := am yI
 clear wM yI
 have cD := am hI
 have HK := am (KeepBut.refl w g none)
 have HL := am hB.size
 clear hI
 have HW0 := am hB.size
 have HB := am hB
 clear hB
 unfold spec_l5Does.f at h
 have H := h
 clear h
 obtain ⟨bE, A3, H⟩ := bd H
 obtain ⟨⟨bT, b9⟩, A4, H⟩ := bd H
 dsimp only at H
 have QT := am H
 clear H
 go_enter Try.func121, Try.ntmps121
 go_upto_region 2 with (first | ((with_reducible refine gD 3 ?_); refine bX 3 #[.slice lZ cA.length nA, .slice lQ eI.length lE] 31 ?_; intro a6 hg w6 hbox hb; replace HB := bS nU hb; have a3 := am (hbox); have bR := am (yV : w.heap.size ≤ a6); have cJ := am (Nat.le_trans HW0.out (yV : w.heap.size ≤ a6) : w0.heap.size ≤ a6); replace HK := am (KeepBut.trans (nV) (KeepBut.of_below hb g none) (.inl rfl)); have e5 := am (by rw [hg]; exact Nat.ne_of_lt (IsS103.lt (show IsS103 w0 _ g aJ cV from iY)) : g ≠ a6); have bP := am (by rw [hg]; exact Nat.ne_of_gt (IsS103.lt (show IsS103 w0 _ g aJ cV from iY)) : a6 ≠ g); replace cD := am (IsS103.below (iY) hb); clear hb hbox hg) | ((with_reducible refine gD 4 ?_); refine bX 4 #[.int .i64 0, .string (⟨#[]⟩ : ByteArray), .slice none 0 0] 106 ?_; intro a8 hg w7 hbox hb; replace HB := bS CJ hb; have a5 := am (hbox); have eO := am (yU : w.heap.size ≤ a8); have eZ := am (Nat.le_trans HW0.out (yU : w.heap.size ≤ a8) : w0.heap.size ≤ a8); replace HK := am (KeepBut.trans (vU) (KeepBut.of_below hb g none) (.inl rfl)); have aU := nL aC hg; have aV := nG aC hg; replace a3 := bB aC hb; have eH := am (by rw [hg]; exact Nat.ne_of_lt (IsS103.lt (show IsS103 w0 _ g aJ cV from oG)) : g ≠ a8); have cW := am (by rw [hg]; exact Nat.ne_of_gt (IsS103.lt (show IsS103 w0 _ g aJ cV from oG)) : a8 ≠ g); replace cD := am (IsS103.below (oG) hb); clear hb hbox hg) | ((with_reducible refine gC 132 ?_); refine cE (some 9) Try.func132 (spec_l5Names.calls  bE _ A3.out) ?_; rintro e w8 ⟨nO, rfl, bQ, hb⟩; refine ⟨_, rfl, ?_⟩; have eE := am (Kd.R_lower bQ (keep_size (w := w) (g := g) (row := none) (pY))); replace a3 := bB aC hb; replace a5 := bB aH hb; replace HK := am (KeepBut.trans (pY) (KeepBut.of_below hb g none) (.inl rfl)); replace HB := bS lG hb; replace cD := am (IsS103.below (gM) hb); (try clear hb); (try clear bQ); obtain ⟨E5, DJ, Aw⟩ := Kd.R_slice eE.1; subst Aw) | ((with_reducible refine gC 101 ?_); refine cQ (some 10) Try.func101 (spec_l1Rd_of.calls k g aJ cV _ _ bE bT b9 w0 _ ((gM)) ((lG)) (pC (Kd.R_reads' eE.1).2.2) ((Kd.R_reads' eE.1).2.1) (far_slice (IsS103.own_ne cD.out eE.1 (by decide))) A4.out) ?_; rintro Sc ⟨hi, hb, hk⟩; replace a3 := kb aC hk bP; replace a5 := kb aH hk cW; replace eE := am (Kd.R_mono (Kd.R_keep (IsS103.apart (show IsS103 w0 _ g aJ cV from gM) (uO) (by decide)) hk (fun _ h => h.2)) (fun _ h => h.1)); replace HK := am (KeepBut.trans (pY) hk (.inl rfl)); replace HB := am (hb); replace cD := am (hi); (try clear hb); (try clear hk); (try clear hi)) | ((with_reducible refine gD 5 ?_); refine bX 5 #[.int .i64 0, .string (⟨#[]⟩ : ByteArray), .slice none 0 0] 106 ?_; intro g8 hg Sf hbox hb; replace eE := am (Kd.R_below (uO) hb); replace HB := bS lG hb; have bF := am (hbox); have n6 := am (MY : w.heap.size ≤ g8); have zA := am (Nat.le_trans HW0.out (MY : w.heap.size ≤ g8) : w0.heap.size ≤ g8); replace HK := am (KeepBut.trans (pY) (KeepBut.of_below hb g none) (.inl rfl)); have bZ := nL aC hg; have eL := nG aC hg; replace a3 := bB aC hb; have d9 := nL aH hg; have gW := nG aH hg; replace a5 := bB aH hb; have lL := am (by rw [hg]; exact Nat.ne_of_lt (IsS103.lt (show IsS103 w0 _ g aJ b9 from gM)) : g ≠ g8); have f6 := am (by rw [hg]; exact Nat.ne_of_gt (IsS103.lt (show IsS103 w0 _ g aJ b9 from gM)) : g8 ≠ g); replace cD := am (IsS103.below (gM) hb); clear hb hbox hg; have ab := eL.1; have bo := bZ.1; have ac := gW.1; have bp := d9.1; have ae := f6.1; have bq := lL.1; obtain ⟨tK, tL, tM, tN, tO, tP⟩ := cz3 bF))
 (try simp only [Act.put, List.setIfInBounds_toArray, List.set_cons_zero, List.set_cons_succ])
 go_cut [20] (fun Rz wc => ∃ (kq : Nat) (KO : Bool) (vB : Int), Rz = .bool KO ∧ Aside0 (spec_l5Does.j0 kq KO aJ vB cA eI 2 bT = some (r1, r2, r3, r4)) ∧ Aside0 (kq ≤ k) ∧ Aside0 (wc.heap[a6]? = some (.cells #[(.slice lZ cA.length nA), (.slice lQ eI.length lE)] 31 (0, 0))) ∧ Aside0 (wc.heap[a8]? = some (.cells #[.int .i64 0, .string (⟨#[]⟩ : ByteArray), (.slice none 0 0)] 106 (0, 0))) ∧ Aside0 (wc.heap[g8]? = some (.cells #[.int .i64 2, .string bT, (.slice none 0 0)] 106 (0, 0))) ∧ Aside0 (IsS103 w0 wc g aJ vB) ∧ Aside0 (KeepBut w wc g none) ∧ Aside0 (Below w0.heap.size w0 wc))
 case first =>
  have H := QT.1
  clear QT
  by_cases DC : (eI.length : Int) > 0
  ·rw [if_pos DC] at H
   have tE : decide (0 < (eI.length : Int)) = true := decide_eq_true DC
   have J8 : decide (0 < eI.length) = true := decide_eq_true (by omega)
   clear DC
   (first | rw [tE] | (simp only [i64_w, i32_w]; rw [tE]) | skip)
   obtain ⟨⟨m9, jQ⟩, ie, H⟩ := bd H
   dsimp only at H
   have H' := am H
   clear H
   have af := aU.1
   have br := aV.1
   have ag := bZ.1
   have bu := eL.1
   have ah := bP.1
   have bv := e5.1
   obtain ⟨MF, MG, Ge, MH⟩ := cz2 a3
   go_wp2_with (first | (go_at_call 100; refine cM (spec_l1Rd_pick.calls k g aJ b9 8 m9 jQ w0 _ ((hG)) ((jP)) ie.out) ?_; rintro KF ⟨hi, hb, hk⟩; replace a3 := am (KeepBut.blk hk (g' := a6) (o := .cells #[.slice lZ cA.length nA, .slice lQ eI.length lE] 31 (0, 0)) (by refine rB ?_; refine blk_far ?_ bZ.1 _; refine rB ?_; refine blk_far ?_ bZ.1 _; refine rB ?_; refine blk_far ?_ bZ.1 _; refine rB ?_; exact a3.1) bP.1 (by simp)); replace a5 := am (KeepBut.blk hk (g' := a8) (o := .cells #[.int .i64 0, .string (⟨#[]⟩ : ByteArray), .slice none 0 0] 106 (0, 0)) (by refine rB ?_; refine blk_far ?_ d9.1 _; refine rB ?_; refine blk_far ?_ d9.1 _; refine rB ?_; refine blk_far ?_ d9.1 _; refine rB ?_; exact a5.1) cW.1 (by simp)); replace eE := am (Kd.R_mono (Kd.R_keep (IsS103.apart (show IsS103 w0 _ g aJ b9 from hG) (by refine rR ?_; exact (Kd.R_mono (fR (fR (fR (tR eE bF)))) (fun _ h_ => h_.1))) (by decide)) hk (fun _ h => h.2)) (fun _ h => h.1)); replace bF := am (KeepBut.blk hk (g' := g8) (o := .cells #[.int .i64 2, .string bT, .slice none 0 0] 106 (0, 0)) (by refine rB ?_; refine blk_put (cs := #[.int .i64 2, .string bT, .slice none 0 0]) ?_ 2 _ rfl; refine rB ?_; refine blk_put (cs := #[.int .i64 2, .string (⟨#[]⟩ : ByteArray), .slice none 0 0]) ?_ 1 _ rfl; refine rB ?_; refine blk_put (cs := #[.int .i64 0, .string (⟨#[]⟩ : ByteArray), .slice none 0 0]) ?_ 0 _ rfl; refine rB ?_; exact bF.1) f6.1 (by simp)); replace HK := am (KeepBut.trans (gG) hk (.inl rfl)); replace HB := am (hb); replace cD := am (hi); (try clear hb); (try clear hk); (try clear hi)))
   go_meet
   exact ⟨_, (decide (m9 > 0)), (jQ), (aQ), H', ⟨by first | omega | exact Nat.le_refl _⟩, ⟨rB a3.1⟩, ⟨rB a5.1⟩, ⟨rB bF.1⟩, ⟨hG⟩, ⟨gG⟩, ⟨jP⟩⟩
  rw [if_neg DC] at H
  have tE : decide (0 < (eI.length : Int)) = false := decide_eq_false DC
  have J8 : decide (0 < eI.length) = false := decide_eq_false (by omega)
  clear DC
  (first | rw [tE] | (simp only [i64_w, i32_w]; rw [tE]) | skip)
  have H' := am H
  clear H
  have ai := aU.1
  have bw := aV.1
  have aj := bZ.1
  have bx := eL.1
  have ak := bP.1
  have ca := e5.1
  obtain ⟨Fb, Fc, Gf, Gg⟩ := cz2 a3
  go_wp2
  go_meet
  exact ⟨_, (false), (b9), (aQ), H', ⟨by first | omega | exact Nat.le_refl _⟩, ⟨by refine rB ?_; refine blk_far ?_ bZ.1 _; refine rB ?_; refine blk_far ?_ bZ.1 _; refine rB ?_; refine blk_far ?_ bZ.1 _; refine rB ?_; exact a3.1⟩, ⟨by refine rB ?_; refine blk_far ?_ d9.1 _; refine rB ?_; refine blk_far ?_ d9.1 _; refine rB ?_; refine blk_far ?_ d9.1 _; refine rB ?_; exact a5.1⟩, ⟨by refine rB ?_; refine blk_put (cs := #[.int .i64 2, .string bT, .slice none 0 0]) ?_ 2 _ rfl; refine rB ?_; refine blk_put (cs := #[.int .i64 2, .string (⟨#[]⟩ : ByteArray), .slice none 0 0]) ?_ 1 _ rfl; refine rB ?_; refine blk_put (cs := #[.int .i64 0, .string (⟨#[]⟩ : ByteArray), .slice none 0 0]) ?_ 0 _ rfl; refine rB ?_; exact bF.1⟩, ⟨hG⟩, ⟨gG⟩, ⟨jP⟩⟩
 clear QT
 try clear tK tL tM tN tO tP
 obtain ⟨kq, KO, vB, rfl, HA, HJ4, a3, a5, bF, cD, HK, HB⟩ := hcut
 cases kq with
 | zero => exact absurd HA.out (by simp [spec_l5Does.j0])
 | succ kj4 =>
  have H := HA.out
  clear HA
  simp only [spec_l5Does.j0] at H
  have QP := am H
  clear H
  go_upto_if 20 with ((fail))
  go_cut [] (fun wc => ∃ (kq : Nat) (p4 : Int) (dO : ByteArray), Aside0 (spec_l5Does.j1 kq aJ p4 cA eI 2 dO = some (r1, r2, r3, r4)) ∧ Aside0 (kq ≤ kj4) ∧ Aside0 (wc.heap[a6]? = some (.cells #[(.slice lZ cA.length nA), (.slice lQ eI.length lE)] 31 (0, 0))) ∧ Aside0 (wc.heap[a8]? = some (.cells #[.int .i64 0, .string (⟨#[]⟩ : ByteArray), (.slice none 0 0)] 106 (0, 0))) ∧ Aside0 (wc.heap[g8]? = some (.cells #[.int .i64 2, .string dO, (.slice none 0 0)] 106 (0, 0))) ∧ Aside0 (IsS103 w0 wc g aJ p4) ∧ Aside0 (KeepBut w wc g none) ∧ Aside0 (Below w0.heap.size w0 wc))
  case first =>
   have H := QP.1
   clear QP
   refine tC H ?_ ?_ <;> clear H <;> intro Nk H <;> subst Nk
   ·obtain ⟨⟨aT, eA⟩, VI, H⟩ := bd H
    dsimp only at H
    obtain ⟨zS, H⟩ := cN H
    (first | rw [zS] | (simp only [i64_w, i32_w]; rw [zS]) | skip)
    obtain ⟨Z1, H⟩ := cN H
    have H' := am H
    clear H
    try go_wp2
    replace a3 := am (blk_drew a3.1)
    replace a5 := am (blk_drew a5.1)
    replace bF := am (blk_drew bF.1)
    replace cD := am (IsS103.drew cD.out)
    replace HK := am (keep_drew HK.out)
    replace HB := am (below_drew1 HB.1)
    have UT : 0 ≤ (aT : Int) := oT
    have V0 : aT < (eI.length : Int) := oT
    obtain ⟨r5, PU, RE, PV, RF, Of, C6, C7, C8, GJ, GD, GK, GE⟩ := at_T56 (Kd.C_foot_now jH.1 HK.out) aT UT V0
    have Ki := C8
    have Kh := C7
    have Kg := C6
    cases Of
    have hne113_2 := (show (⟨(r5.add ((aT).toNat * 3)).block, (r5.add ((aT).toNat * 3)).off + 2, none⟩ : Addr).block ≠ g from by first | (rw [add_block]; exact Kd.foot_ne jH.1 (by omega) (by decide)) | (show (Addr.add _ _).block ≠ _; rw [add_block]; exact Kd.foot_ne jH.1 (by omega) (by decide)) | exact Kd.foot_ne jH.1 (by omega) (by decide) | (dsimp only; exact Kd.foot_ne jH.1 (by omega) (by decide)))
    have hlt113_2 := (Kd.foot_lt jH.1 (by omega) (by decide))
    have hne113_1 := (show (⟨(r5.add ((aT).toNat * 3)).block, (r5.add ((aT).toNat * 3)).off + 1, none⟩ : Addr).block ≠ g from by first | (rw [add_block]; exact Kd.foot_ne jH.1 (by omega) (by decide)) | (show (Addr.add _ _).block ≠ _; rw [add_block]; exact Kd.foot_ne jH.1 (by omega) (by decide)) | exact Kd.foot_ne jH.1 (by omega) (by decide) | (dsimp only; exact Kd.foot_ne jH.1 (by omega) (by decide)))
    have hlt113_1 := (Kd.foot_lt jH.1 (by omega) (by decide))
    have hne113_0 := (show ((r5.add ((aT).toNat * 3)) : Addr).block ≠ g from by first | (rw [add_block]; exact Kd.foot_ne jH.1 (by omega) (by decide)) | (show (Addr.add _ _).block ≠ _; rw [add_block]; exact Kd.foot_ne jH.1 (by omega) (by decide)) | exact Kd.foot_ne jH.1 (by omega) (by decide) | (dsimp only; exact Kd.foot_ne jH.1 (by omega) (by decide)))
    have hlt113_0 := (Kd.foot_lt jH.1 (by omega) (by decide))
    have LL := am GD
    have Eb := am GJ
    clear GD GJ
    have LN := am GE
    have Ec := am GK
    clear GE GK
    replace UT := eq_true UT
    replace V0 := eq_true V0
    refine sT (S := fun w' => w'.cell? ⟨a6, 0, none⟩ = some (.slice lZ cA.length nA) ∧ w'.cell? ⟨a6, 1, none⟩ = some (.slice (some r5) eI.length lE) ∧ w'.cell? (r5.add ((aT).toNat * 3)) = some (.string ((rd_T56 eI aT).f0)) ∧ w'.cell? ⟨(r5.add ((aT).toNat * 3)).block, (r5.add ((aT).toNat * 3)).off + 1, none⟩ = some (.slice PU ((rd_T56 eI aT).f1).length RE) ∧ w'.cell? ⟨(r5.add ((aT).toNat * 3)).block, (r5.add ((aT).toNat * 3)).off + 2, none⟩ = some (.slice PV ((rd_T56 eI aT).f2).length RF)) [] 12 ⟨⟨(blk_cell a3.1 0).trans rfl, (blk_cell a3.1 1).trans rfl, C6, C7, C8⟩⟩ (fun hHeld => ?_); refine with_tabW spec_l5Does.tab3 spec_l5Does.bits3 (fun HT_ HW_ => ?_)
    generalize wc.drew = ee at a3 a5 bF cD HK HB LL LN C6 C7 C8 hHeld ⊢
    refine pU 0 (some 21) ?_
    refine pU 2 (some 23) ?_
    refine pU 3 (some 24) ?_
    refine tK5 1 (some 22) ?_
    refine tK5 4 (some 25) ?_
    refine pU 5 (some 26) ?_
    refine oN 6 (some 27) fun K hK => ?_
    refine goes_ Try.func100 (by kernel_rfl) rfl #[.pointer (some ⟨g, 0, none⟩), .int .i64 (eI.length : Int)] (by rfl) rfl rfl (sE) ?_
    with_reducible refine (spec_l1Rd_pick.calls kj4 g aJ vB (eI.length : Int) aT eA w0 _ ?side1 ?side2 VI.out).mono ?_
    (case side1 => exact (hG))
    (case side2 => exact (jP))
    rintro e WH ⟨rfl, hi, hb, hk⟩
    have HS2_ := keep_cell hk (hHeld.2.2.1) (by first | (rw [add_block]; exact hne113_0) | (show (Addr.add _ _).block ≠ _; rw [add_block]; exact hne113_0) | exact hne113_0)
    have HS3_ := keep_cell hk (hHeld.2.2.2.1) (by first | (rw [add_block]; exact hne113_1) | (show (Addr.add _ _).block ≠ _; rw [add_block]; exact hne113_1) | exact hne113_1)
    have HS4_ := keep_cell hk (hHeld.2.2.2.2) (by first | (rw [add_block]; exact hne113_2) | (show (Addr.add _ _).block ≠ _; rw [add_block]; exact hne113_2) | exact hne113_2)
    refine ⟨_, rfl, ?_⟩
    replace a3 := kb aC hk bP
    replace a5 := kb aH hk cW
    replace bF := kb nH hk f6
    replace HK := am (KeepBut.trans (gG) hk (.inl rfl))
    replace HB := am (hb)
    replace cD := am (hi)
    (try clear hb)
    (try clear hb2)
    (try clear hk)
    (try clear hi)
    refine hK.out _ _ ⟨(blk_cell a3.1 0).trans rfl, (blk_cell a3.1 1).trans rfl, HS2_, HS3_, HS4_⟩ (fun hHeld => ?_)
    clear hK K
    refine nM ?_
    refine pU 7 (some 28) ?_
    refine pU 8 (some 29) ?_
    refine tK5 9 (some 30) ?_
    refine pU 10 (some 31) ?_
    refine oN 11 none fun K hK => ?_
    have nl : WH.cell? ⟨g8, 1, none⟩ = some (.string bT) := (blk_cell bF.1 1).trans rfl
    have Zu := blk_frozen bF.1 1
    have Jr := bZ.1
    have Js := d9.1
    have Hw := eL.1
    have Hx := gW.1
    refine skip_ (w1 := ?_) (by rfl) rfl ?_ ?_
    rotate_left
    ·go_simp
     rfl
    refine hK.out _ _ ⟨((cell_far (p := ⟨g8, _, none⟩) bZ.1 _).trans (hHeld.1)), ((cell_far (p := ⟨g8, _, none⟩) bZ.1 _).trans (hHeld.2.1)), ((cell_far (p := ⟨g8, _, none⟩) (by first | exact Nat.ne_of_lt (Nat.lt_of_lt_of_le hlt113_0 n6.out) | (rw [add_block]; exact Nat.ne_of_lt (Nat.lt_of_lt_of_le hlt113_0 n6.out)) | (show (Addr.add _ _).block ≠ _; rw [add_block]; exact Nat.ne_of_lt (Nat.lt_of_lt_of_le hlt113_0 n6.out)) | (dsimp only; exact Nat.ne_of_lt (Nat.lt_of_lt_of_le hlt113_0 n6.out))) _).trans (hHeld.2.2.1)), ((cell_far (p := ⟨g8, _, none⟩) (by first | exact Nat.ne_of_lt (Nat.lt_of_lt_of_le hlt113_1 n6.out) | (rw [add_block]; exact Nat.ne_of_lt (Nat.lt_of_lt_of_le hlt113_1 n6.out)) | (show (Addr.add _ _).block ≠ _; rw [add_block]; exact Nat.ne_of_lt (Nat.lt_of_lt_of_le hlt113_1 n6.out)) | (dsimp only; exact Nat.ne_of_lt (Nat.lt_of_lt_of_le hlt113_1 n6.out))) _).trans (hHeld.2.2.2.1)), ((cell_far (p := ⟨g8, _, none⟩) (by first | exact Nat.ne_of_lt (Nat.lt_of_lt_of_le hlt113_2 n6.out) | (rw [add_block]; exact Nat.ne_of_lt (Nat.lt_of_lt_of_le hlt113_2 n6.out)) | (show (Addr.add _ _).block ≠ _; rw [add_block]; exact Nat.ne_of_lt (Nat.lt_of_lt_of_le hlt113_2 n6.out)) | (dsimp only; exact Nat.ne_of_lt (Nat.lt_of_lt_of_le hlt113_2 n6.out))) _).trans (hHeld.2.2.2.2))⟩ (fun hHeld => ?_)
    clear hK K
    refine done_ (done_of HT_.out (by kernel_rfl)) ?_
    try go_wp2
    go_meet
    case rel => exact ⟨_, (eA), ((rd_T56 eI aT).f0), H', ⟨by have := HJ4.out; first | omega | exact Nat.le_refl _⟩, ⟨by refine rB ?_; refine blk_far ?_ bZ.1 _; refine rB ?_; exact a3.1⟩, ⟨by refine rB ?_; refine blk_far ?_ d9.1 _; refine rB ?_; exact a5.1⟩, ⟨by refine rB ?_; refine blk_put (cs := #[.int .i64 2, .string bT, .slice none 0 0]) ?_ 1 _ rfl; refine rB ?_; exact bF.1⟩, ⟨hG⟩, ⟨gG⟩, ⟨jP⟩⟩
   ·have H' := am H
    clear H
    go_wp2
    go_meet
    case rel => exact ⟨_, (vB), (bT), H', ⟨by have := HJ4.out; first | omega | exact Nat.le_refl _⟩, ⟨rB a3.1⟩, ⟨rB a5.1⟩, ⟨rB bF.1⟩, ⟨hG⟩, ⟨gG⟩, ⟨jP⟩⟩
  case rest =>
   clear QP
   try clear tK tL tM tN tO tP
   obtain ⟨kq, p4, dO, HA, AQ, a3, a5, bF, cD, HK, HB⟩ := hcut
   cases kq with
   | zero => exact absurd HA.out (by simp [spec_l5Does.j1])
   | succ kj26 =>
    have H := HA.out
    clear HA
    simp only [spec_l5Does.j1] at H
    obtain ⟨qM, Tb, H⟩ := bd H
    have QR := am H
    clear H
    have al := aU.1
    have cb := aV.1
    have ao := bZ.1
    have cd := eL.1
    have ap := bP.1
    have ce := e5.1
    obtain ⟨BL, BM, BS, BT⟩ := cz2 a3
    have aq := gW.1
    have cf := d9.1
    have ar := f6.1
    have ch := lL.1
    obtain ⟨BN, BO, BP, BU, BV, BX⟩ := cz3 bF
    go_upto_if 39 with (first | ((with_reducible refine gC 82 ?_); refine cQ (some 35) Try.func82 (spec_l1At.calls kj26 _ _ cA _ _ eI dO qM _ (Kd.C_keep (⟨#[]⟩ : ByteArray) D2.1 (gG) hf1_0) D0.1 (Kd.C_foot_now jH.1 (gG)) I5.1 Tb.out) ?_; rintro WI hb; replace a3 := bB aC hb; replace a5 := bB aH hb; replace bF := bB nH hb; replace HK := am (KeepBut.trans (gG) (KeepBut.of_below hb g none) (.inl rfl)); replace HB := bS jP hb; replace cD := am (IsS103.below (hG) hb); (try clear hb); obtain ⟨BQ, BR, BY, BZ⟩ := cz2 a3))
    (try simp only [Act.put, List.setIfInBounds_toArray, List.set_cons_zero, List.set_cons_succ])
    go_cut [7] (fun v7 wc => ∃ (kq : Nat) (sR : List ByteArray), Aside0 (spec_l5Does.j2 kq sR aJ p4 cA eI 2 dO = some (r1, r2, r3, r4)) ∧ Aside0 (kq ≤ kj26) ∧ Aside0 (∃ A_ c_, v7 = .slice A_ sR.length c_ ∧ Kd.C Kd.string w A_ sR.length sR ∧ sR.length ≤ c_ ∧ (∀ ad, A_ = some ad → 0 < sR.length → ad.block ≠ g)) ∧ Aside0 (wc.heap[a6]? = some (.cells #[(.slice lZ cA.length nA), (.slice lQ eI.length lE)] 31 (0, 0))) ∧ Aside0 (wc.heap[a8]? = some (.cells #[.int .i64 0, .string (⟨#[]⟩ : ByteArray), (.slice none 0 0)] 106 (0, 0))) ∧ Aside0 (wc.heap[g8]? = some (.cells #[.int .i64 2, .string dO, (.slice none 0 0)] 106 (0, 0))) ∧ Aside0 (IsS103 w0 wc g aJ p4) ∧ Aside0 (KeepBut w wc g none) ∧ Aside0 (Below w0.heap.size w0 wc))
    case first =>
     have H := QR.1
     clear QR
     by_cases OY : qM ≥ 0
     ·rw [if_pos OY] at H
      have DF : decide (0 ≤ qM) = true := decide_eq_true OY
      clear OY
      (first | rw [DF] | (simp only [i64_w, i32_w]; rw [DF]) | skip)
      obtain ⟨Yi, H⟩ := cN H
      obtain ⟨Z3, H⟩ := cN H
      have H' := am H
      clear H
      have au := aU.1
      have ci := aV.1
      have av := bZ.1
      have cj := eL.1
      have aw := bP.1
      have ck := e5.1
      obtain ⟨Fd, Fe, Gh, Gi⟩ := cz2 a3
      obtain ⟨Xn, Ky, Ms, Kz, Mt, Og, Kl, Km, GQ, El, Ed, Em, LA, Cq, Cw⟩ := aT56 (am (Kd.C_foot_now jH.1 HK.out)) b0 qM
      cases Og
      go_wp2
      go_meet
      case rel => exact ⟨_, ((rd_T56 eI qM).f2), H', ⟨by have := HJ4.out; have := AQ.out; first | omega | exact Nat.le_refl _⟩, ⟨⟨_, _, rfl, (foot_inner jH.1 HK.out qM (of_eq_true Cq) (of_eq_true Cw) GQ) w (KeepBut.refl w g none), LA.1, foot_far (foot_inner jH.1 HK.out qM (of_eq_true Cq) (of_eq_true Cw) GQ)⟩⟩, ⟨rB a3.1⟩, ⟨rB a5.1⟩, ⟨rB bF.1⟩, ⟨hG⟩, ⟨gG⟩, ⟨jP⟩⟩
     ·rw [if_neg OY] at H
      have DF : decide (0 ≤ qM) = false := decide_eq_false OY
      clear OY
      (first | rw [DF] | (simp only [i64_w, i32_w]; rw [DF]) | skip)
      have H' := am H
      clear H
      go_wp2
      go_meet
      case rel => exact ⟨_, (cA), H', ⟨by have := HJ4.out; have := AQ.out; first | omega | exact Nat.le_refl _⟩, ⟨⟨_, _, rfl, D2.1, D0.1, hf1_0⟩⟩, ⟨rB a3.1⟩, ⟨rB a5.1⟩, ⟨rB bF.1⟩, ⟨hG⟩, ⟨gG⟩, ⟨jP⟩⟩
    case rest =>
     clear QR
     try clear tK tL tM tN tO tP
     try clear BL BM BS BT
     try clear BN BO BP BU BV BX
     try clear BQ BR BY BZ
     obtain ⟨kq, sR, HA, EJ, HM7, a3, a5, bF, cD, HK, HB⟩ := hcut
     obtain ⟨A7m, c7m, rfl, hr7m_, hc7m_, hf7m⟩ := HM7.out
     clear HM7
     have HR7m := am hr7m_
     have HC7m := am hc7m_
     clear hr7m_ hc7m_
     cases kq with
     | zero => exact absurd HA.out (by simp [spec_l5Does.j2])
     | succ kj35 =>
      have H := HA.out
      clear HA
      simp only [spec_l5Does.j2] at H
      obtain ⟨⟨pZ, vV⟩, io, H⟩ := bd H
      dsimp only at H
      have QV := am H
      clear H
      go_upto_block 0 with (first | ((with_reducible refine gC 100 ?_); refine cQ (some 47) Try.func100 (spec_l1Rd_pick.calls kj35 g aJ p4 9 pZ vV w0 _ ((hG)) ((jP)) io.out) ?_; rintro se ⟨hi, hb, hk⟩; replace a3 := kb aC hk bP; replace a5 := kb aH hk cW; replace bF := kb nH hk f6; replace HK := am (KeepBut.trans (gG) hk (.inl rfl)); replace HB := am (hb); replace cD := am (hi); (try clear hb); (try clear hk); (try clear hi)))
      (try simp only [Act.put, List.setIfInBounds_toArray, List.set_cons_zero, List.set_cons_succ])
      go_cut [] (fun wc => ∃ (kq : Nat) (nP : Int) (f8 : Int) (jX : ByteArray) (jY : List ByteArray) (uX : Value), Aside0 (spec_l5Does.j4 kq aJ nP f8 jX jY = some (r1, r2, r3, r4)) ∧ Aside0 (kq ≤ kj35) ∧ Aside0 (Kd.R Kd.string 9 wc w.heap.size (fun _ => True) uX jY) ∧ Aside0 (wc.heap[a6]? = some (.cells #[(.slice lZ cA.length nA), (.slice lQ eI.length lE)] 31 (0, 0))) ∧ Aside0 (wc.heap[a8]? = some (.cells #[.int .i64 0, .string (⟨#[]⟩ : ByteArray), (.slice none 0 0)] 106 (0, 0))) ∧ Aside0 (wc.heap[g8]? = some (.cells #[.int .i64 f8, .string jX, uX] 106 (0, 0))) ∧ Aside0 (IsS103 w0 wc g aJ nP) ∧ Aside0 (KeepBut w wc g none) ∧ Aside0 (Below w0.heap.size w0 wc))
      case first =>
       have H := QV.1
       clear QV
       have QW := am H
       clear H
       go_upto_if 52 with ((fail))
       go_cut [52] (fun pk wc => ∃ (kq : Nat) (CS : Bool), pk = .bool CS ∧ Aside0 (spec_l5Does.j3 kq sR pZ CS aJ vV cA eI 2 dO = some (r1, r2, r3, r4)) ∧ Aside0 (kq ≤ kj35) ∧ Aside0 (wc.heap[a6]? = some (.cells #[(.slice lZ cA.length nA), (.slice lQ eI.length lE)] 31 (0, 0))) ∧ Aside0 (wc.heap[a8]? = some (.cells #[.int .i64 0, .string (⟨#[]⟩ : ByteArray), (.slice none 0 0)] 106 (0, 0))) ∧ Aside0 (wc.heap[g8]? = some (.cells #[.int .i64 2, .string dO, (.slice none 0 0)] 106 (0, 0))) ∧ Aside0 (IsS103 w0 wc g aJ vV) ∧ Aside0 (KeepBut w wc g none) ∧ Aside0 (Below w0.heap.size w0 wc))
       case first =>
        have H := QW.1
        clear QW
        refine iq H ?_ ?_ <;> clear H <;> intro rr zV Yo H
        ·(first | rw [zV] | (simp only [i64_w, i32_w]; rw [zV]) | skip)
         have H' := am H
         clear H
         go_wp2
         go_meet
         case rel => exact ⟨_, ((pZ == 0)), (aQ), H', ⟨by have := HJ4.out; have := AQ.out; have := EJ.out; first | omega | exact Nat.le_refl _⟩, ⟨rB a3.1⟩, ⟨rB a5.1⟩, ⟨rB bF.1⟩, ⟨hG⟩, ⟨gG⟩, ⟨jP⟩⟩
        ·(first | rw [zV] | (simp only [i64_w, i32_w]; rw [zV]) | skip)
         refine iq H ?_ ?_ <;> clear H <;> intro Yp P0 Yq H
         ·have H' := am H
          clear H
          go_wp2
          go_meet
          case rel => exact ⟨_, ((pZ == 1)), (aQ), H', ⟨by have := HJ4.out; have := AQ.out; have := EJ.out; first | omega | exact Nat.le_refl _⟩, ⟨rB a3.1⟩, ⟨rB a5.1⟩, ⟨rB bF.1⟩, ⟨hG⟩, ⟨gG⟩, ⟨jP⟩⟩
         ·have H' := am H
          clear H
          go_wp2
          go_meet
          case rel => exact ⟨_, ((pZ == 2)), (aQ), H', ⟨by have := HJ4.out; have := AQ.out; have := EJ.out; first | omega | exact Nat.le_refl _⟩, ⟨rB a3.1⟩, ⟨rB a5.1⟩, ⟨rB bF.1⟩, ⟨hG⟩, ⟨gG⟩, ⟨jP⟩⟩
       case rest =>
        clear QW
        try clear tK tL tM tN tO tP
        try clear BL BM BS BT
        try clear BN BO BP BU BV BX
        try clear BQ BR BY BZ
        obtain ⟨kq, CS, rfl, HA, LK, a3, a5, bF, cD, HK, HB⟩ := hcut
        cases kq with
        | zero => exact absurd HA.out (by simp [spec_l5Does.j3])
        | succ kj55 =>
         have H := HA.out
         clear HA
         simp only [spec_l5Does.j3] at H
         rcases tf CS with Yr | Yr <;> subst Yr
         ·replace H : ((spec_l5Names.f).bind fun lI => ((spec_l1Rd_of.f kj55 aJ vV lI).bind fun OI => ((spec_l5Some.f kj55 aJ OI.2 cA 2).bind fun OJ => (spec_l5Does.j4 kj55 aJ OJ.2 1 OI.1 OJ.1)))) = some (r1, r2, r3, r4) := iT H
          obtain ⟨lI, Dz, H⟩ := bd H
          obtain ⟨⟨lJ, nX⟩, ip, H⟩ := bd H
          dsimp only at H
          obtain ⟨⟨nN, oI⟩, Lk, H⟩ := bd H
          dsimp only at H
          have H' := am H
          clear H
          have ax := eL.1
          have cl := bZ.1
          have ay := gW.1
          have cm := d9.1
          have az := f6.1
          have cn := lL.1
          obtain ⟨Ff, Fg, Fh, Gj, Gk, Gl⟩ := cz3 bF
          go_wp2_with (first | ((with_reducible refine gC 132 ?_); refine cE (some 58) Try.func132 (spec_l5Names.calls  lI _ Dz.out) ?_; rintro e qi ⟨V9, rfl, bQ, hb⟩; refine ⟨_, rfl, ?_⟩; have lR := am (Kd.R_lower bQ (keep_size (w := w) (g := g) (row := none) (gG))); replace a3 := am (blk_below (g := a6) (o := .cells #[.slice lZ cA.length nA, .slice lQ eI.length lE] 31 (0, 0)) (by refine rB ?_; refine blk_far ?_ bZ.1 _; refine rB ?_; exact a3.1) hb); replace a5 := am (blk_below (g := a8) (o := .cells #[.int .i64 0, .string (⟨#[]⟩ : ByteArray), .slice none 0 0] 106 (0, 0)) (by refine rB ?_; refine blk_far ?_ d9.1 _; refine rB ?_; exact a5.1) hb); replace bF := am (blk_below (g := g8) (o := .cells #[.int .i64 1, .string dO, .slice none 0 0] 106 (0, 0)) (by refine rB ?_; refine blk_put (cs := #[.int .i64 2, .string dO, .slice none 0 0]) ?_ 0 _ rfl; refine rB ?_; exact bF.1) hb); replace HK := am (KeepBut.trans (gG) (KeepBut.of_below hb g none) (.inl rfl)); replace HB := bS jP hb; replace cD := am (IsS103.below (show IsS103 w0 (wc.setCell ⟨g8, 0, none⟩ (.int .i64 1)) g aJ vV from hG) hb); (try clear hb); (try clear bQ); obtain ⟨QB, S0, T9⟩ := Kd.R_slice lR.1; subst T9) | ((with_reducible refine gC 101 ?_); refine cQ (some 59) Try.func101 (spec_l1Rd_of.calls kj55 g aJ vV _ _ lI lJ nX w0 _ ((hG)) ((jP)) (pC (Kd.R_reads' lR.1).2.2) ((Kd.R_reads' lR.1).2.1) (far_slice (IsS103.own_ne cD.out lR.1 (by decide))) ip.out) ?_; rintro sn ⟨hi, hb, hk⟩; replace a3 := kb aC hk bP; replace a5 := kb aH hk cW; replace bF := kb nH hk f6; replace lR := am (Kd.R_mono (Kd.R_keep (IsS103.apart (show IsS103 w0 _ g aJ vV from hG) (rR lR.1) (by decide)) hk (fun _ h => h.2)) (fun _ h => h.1)); replace HK := am (KeepBut.trans (gG) hk (.inl rfl)); replace HB := am (hb); replace cD := am (hi); (try clear hb); (try clear hk); (try clear hi); obtain ⟨Fi, Fj, Fk, Gm, Gn, Gp⟩ := cz3 bF; have ba := aU.1; have co := aV.1; have bb := bP.1; have cp := e5.1; obtain ⟨Fl, Fm, Gq, Gr⟩ := cz2 a3) | ((with_reducible refine gC 109 ?_); refine cE (some 64) Try.func109 (spec_l5Some.calls kj55 g aJ nX _ _ cA 2 nN oI w0 _ ((hG)) ((jP)) (Kd.C_keep (⟨#[]⟩ : ByteArray) D2.1 (gG) hf1_0) D0.1 hf1_0 Lk.out) ?_; rintro e fu ⟨F7, rfl, bQ, hi, hb, hk⟩; refine ⟨_, rfl, ?_⟩; replace a3 := am (KeepBut.blk hk (g' := a6) (o := .cells #[.slice lZ cA.length nA, .slice lQ eI.length lE] 31 (0, 0)) (by refine rB ?_; refine blk_far ?_ bZ.1 _; refine rB ?_; exact a3.1) bP.1 (by simp)); replace a5 := am (KeepBut.blk hk (g' := a8) (o := .cells #[.int .i64 0, .string (⟨#[]⟩ : ByteArray), .slice none 0 0] 106 (0, 0)) (by refine rB ?_; refine blk_far ?_ d9.1 _; refine rB ?_; exact a5.1) cW.1 (by simp)); have iQ := am (Kd.R_lower (Kd.R_new' bQ (Kd.R_lt (by refine rR ?_; exact (Kd.R_mono (fR (tR lR bF)) (fun _ h_ => h_.1))))) (keep_size (w := w) (g := g) (row := none) (gG))); replace lR := am (Kd.R_mono (Kd.R_told (Kd.R_oldK (IsS103.apart (show IsS103 w0 _ g aJ nX from hG) (by refine rR ?_; exact (Kd.R_mono (fR (tR lR bF)) (fun _ h_ => h_.1))) (by decide)) hk) (Kd.R_base bQ)) (fun _ h_ => h_.1)); replace bF := am (KeepBut.blk hk (g' := g8) (o := .cells #[.int .i64 1, .string lJ, .slice none 0 0] 106 (0, 0)) (by refine rB ?_; refine blk_put (cs := #[.int .i64 1, .string dO, .slice none 0 0]) ?_ 1 _ rfl; refine rB ?_; exact bF.1) f6.1 (by simp)); replace HK := am (KeepBut.trans (gG) hk (.inl rfl)); replace HB := am (hb); replace cD := am (hi); (try clear hb); (try clear hk); (try clear hi); (try clear bQ); obtain ⟨Lw, Oa, Pc⟩ := Kd.R_slice iQ.1; subst Pc; obtain ⟨Fn, Fo, Fp, Gs, Gt, Gu⟩ := cz3 bF))
          go_meet
          case rel => exact ⟨_, (oI), (1), (lJ), (nN), (.slice Lw nN.length Oa), H', ⟨by have := HJ4.out; have := AQ.out; have := EJ.out; have := LK.out; first | omega | exact Nat.le_refl _⟩, ⟨by refine rR ?_; exact Kd.R_mono (fR (tR iQ bF)) (fun _ hk => trivial)⟩, ⟨by refine rB ?_; refine blk_far ?_ bZ.1 _; refine rB ?_; exact a3.1⟩, ⟨by refine rB ?_; refine blk_far ?_ d9.1 _; refine rB ?_; exact a5.1⟩, ⟨by refine rB ?_; refine blk_put (cs := #[.int .i64 1, .string lJ, .slice none 0 0]) ?_ 2 _ rfl; refine rB ?_; exact bF.1⟩, ⟨hG⟩, ⟨gG⟩, ⟨jP⟩⟩
         ·replace H := iF H
          refine iq H ?_ ?_ <;> clear H <;> intro rt Za Zb H
          ·obtain ⟨⟨mA, CM⟩, iz, H⟩ := bd H
           dsimp only at H
           have H' := am H
           clear H
           have bc := eL.1
           have cq := bZ.1
           have bf := gW.1
           have cr := d9.1
           have bg := f6.1
           have ct := lL.1
           obtain ⟨Fq, Fr, Fs, Gv, Gw, Gx⟩ := cz3 bF
           go_wp2_with (first | ((with_reducible refine gC 109 ?_); refine cE (some 71) Try.func109 (spec_l5Some.calls kj55 g aJ vV _ _ sR 2 mA CM w0 _ ((hG)) ((jP)) (Kd.C_keep (⟨#[]⟩ : ByteArray) HR7m.1 (gG) hf7m) HC7m.1 hf7m iz.out) ?_; rintro e Du ⟨vX, rfl, bQ, hi, hb, hk⟩; refine ⟨_, rfl, ?_⟩; replace a3 := am (KeepBut.blk hk (g' := a6) (o := .cells #[.slice lZ cA.length nA, .slice lQ eI.length lE] 31 (0, 0)) (by refine rB ?_; refine blk_far ?_ bZ.1 _; refine rB ?_; exact a3.1) bP.1 (by simp)); replace a5 := am (KeepBut.blk hk (g' := a8) (o := .cells #[.int .i64 0, .string (⟨#[]⟩ : ByteArray), .slice none 0 0] 106 (0, 0)) (by refine rB ?_; refine blk_far ?_ d9.1 _; refine rB ?_; exact a5.1) cW.1 (by simp)); replace bF := am (KeepBut.blk hk (g' := g8) (o := .cells #[.int .i64 3, .string dO, .slice none 0 0] 106 (0, 0)) (by refine rB ?_; refine blk_put (cs := #[.int .i64 2, .string dO, .slice none 0 0]) ?_ 0 _ rfl; refine rB ?_; exact bF.1) f6.1 (by simp)); have jM := am (Kd.R_lower bQ (keep_size (w := w) (g := g) (row := none) (gG))); replace HK := am (KeepBut.trans (gG) hk (.inl rfl)); replace HB := am (hb); replace cD := am (hi); (try clear hb); (try clear hk); (try clear hi); (try clear bQ); obtain ⟨y4, wP, H7⟩ := Kd.R_slice jM.1; subst H7; obtain ⟨Ft, Fu, Fv, Gy, Gz, Ha⟩ := cz3 bF))
           go_meet
           case rel => exact ⟨_, (CM), (3), (dO), (mA), (.slice y4 mA.length wP), H', ⟨by have := HJ4.out; have := AQ.out; have := EJ.out; have := LK.out; first | omega | exact Nat.le_refl _⟩, ⟨by refine rR ?_; exact Kd.R_mono (fR (tR jM bF)) (fun _ hk => trivial)⟩, ⟨by refine rB ?_; refine blk_far ?_ bZ.1 _; refine rB ?_; exact a3.1⟩, ⟨by refine rB ?_; refine blk_far ?_ d9.1 _; refine rB ?_; exact a5.1⟩, ⟨by refine rB ?_; refine blk_put (cs := #[.int .i64 3, .string dO, .slice none 0 0]) ?_ 2 _ rfl; refine rB ?_; exact bF.1⟩, ⟨hG⟩, ⟨gG⟩, ⟨jP⟩⟩
          ·refine iq H ?_ ?_ <;> clear H <;> intro rv Ze Zf H
           ·have H' := am H
            clear H
            have bh := eL.1
            have cu := bZ.1
            have bj := gW.1
            have cv := d9.1
            have bk := f6.1
            have cw := lL.1
            obtain ⟨Fw, Fx, Fy, Hb, Hc, He⟩ := cz3 bF
            go_wp2
            go_meet
            case rel => exact ⟨_, (vV), (4), (dO), (([] : List ByteArray)), (.slice none 0 0), H', ⟨by have := HJ4.out; have := AQ.out; have := EJ.out; have := LK.out; first | omega | exact Nat.le_refl _⟩, ⟨by first | exact Kd.R_nil _ _ _ _ _ | exact Kd.N_nil _ _ _ _ _ | exact Kd.V_nil _ _ _ _ _ | exact Kd.Q_nil _ _ _ _ _ | exact Kd.S_nil _ _ _ _ _⟩, ⟨by refine rB ?_; refine blk_far ?_ bZ.1 _; refine rB ?_; exact a3.1⟩, ⟨by refine rB ?_; refine blk_far ?_ d9.1 _; refine rB ?_; exact a5.1⟩, ⟨by refine rB ?_; refine blk_put (cs := #[.int .i64 2, .string dO, .slice none 0 0]) ?_ 0 _ rfl; refine rB ?_; exact bF.1⟩, ⟨hG⟩, ⟨gG⟩, ⟨jP⟩⟩
           ·obtain ⟨⟨uW, yZ⟩, jc, H⟩ := bd H
            dsimp only at H
            have H' := am H
            clear H
            go_wp2_with (first | ((with_reducible refine gC 109 ?_); refine cE (some 50) Try.func109 (spec_l5Some.calls kj55 g aJ vV _ _ sR 2 uW yZ w0 _ ((hG)) ((jP)) (Kd.C_keep (⟨#[]⟩ : ByteArray) HR7m.1 (gG) hf7m) HC7m.1 hf7m jc.out) ?_; rintro e su ⟨VA, rfl, bQ, hi, hb, hk⟩; refine ⟨_, rfl, ?_⟩; replace a3 := kb aC hk bP; replace a5 := kb aH hk cW; replace bF := kb nH hk f6; have kL := am (Kd.R_lower bQ (keep_size (w := w) (g := g) (row := none) (gG))); replace HK := am (KeepBut.trans (gG) hk (.inl rfl)); replace HB := am (hb); replace cD := am (hi); (try clear hb); (try clear hk); (try clear hi); (try clear bQ); obtain ⟨Ma, Oe, Pg⟩ := Kd.R_slice kL.1; subst Pg; have bl := eL.1; have cx := bZ.1; have bm := gW.1; have cy := d9.1; have bn := f6.1; have cz := lL.1; obtain ⟨Fz, Ga, Gb, Hf, Hg, Hh⟩ := cz3 bF))
            go_meet
            case rel => exact ⟨_, (yZ), (2), (dO), (uW), (.slice Ma uW.length Oe), H', ⟨by have := HJ4.out; have := AQ.out; have := EJ.out; have := LK.out; first | omega | exact Nat.le_refl _⟩, ⟨by refine rR ?_; exact Kd.R_mono (fR (tR kL bF)) (fun _ hk => trivial)⟩, ⟨by refine rB ?_; refine blk_far ?_ bZ.1 _; refine rB ?_; exact a3.1⟩, ⟨by refine rB ?_; refine blk_far ?_ d9.1 _; refine rB ?_; exact a5.1⟩, ⟨by refine rB ?_; refine blk_put (cs := #[.int .i64 2, .string dO, .slice none 0 0]) ?_ 2 _ rfl; refine rB ?_; exact bF.1⟩, ⟨hG⟩, ⟨gG⟩, ⟨jP⟩⟩
      case rest =>
       clear QV
       try clear tK tL tM tN tO tP
       try clear BL BM BS BT
       try clear BN BO BP BU BV BX
       try clear BQ BR BY BZ
       obtain ⟨kq, nP, f8, jX, jY, uX, HA, jt, dU, a3, a5, bF, cD, HK, HB⟩ := hcut
       cases kq with
       | zero => exact absurd HA.out (by simp [spec_l5Does.j4])
       | succ kj53 =>
        have H := HA.out
        clear HA
        simp only [spec_l5Does.j4] at H
        obtain ⟨⟨K9, yK⟩, Tl, H⟩ := bd H
        dsimp only at H
        refine iq H ?_ ?_ <;> clear H <;> intro rx ZN Zl H
        obtain ⟨wA, wJ⟩ := yv (([(⟨#[]⟩ : ByteArray), (⟨#[97]⟩ : ByteArray), (⟨#[122, 122]⟩ : ByteArray), (⟨#[116, 117, 110]⟩ : ByteArray)] : List ByteArray)); first | replace H := bW wJ H | rw [← wJ.1] at H
        obtain ⟨⟨CN, Rk⟩, PP, H⟩ := bd H
        dsimp only at H
        obtain ⟨QX, H⟩ := cL H
        obtain ⟨Dy, IU⟩ := yv (jY ++ [CN]); first | replace H := bW IU H | rw [← IU.1] at H
        simp only [Option.some.injEq, Prod.mk.injEq] at H
        obtain ⟨rfl, rfl, rfl, rfl⟩ := H
        have IG := trivial
        rotate_left
        refine iq H ?_ ?_ <;> clear H <;> intro lz Mu Mv H
        obtain ⟨Sw, G6⟩ := yv (([(⟨#[]⟩ : ByteArray), (⟨#[65]⟩ : ByteArray), (⟨#[122, 122]⟩ : ByteArray)] : List ByteArray)); first | replace H := bW G6 H | rw [← G6.1] at H
        obtain ⟨⟨N5, Rl⟩, La, H⟩ := bd H
        dsimp only at H
        simp only [Option.some.injEq, Prod.mk.injEq] at H
        obtain ⟨rfl, rfl, rfl, rfl⟩ := H
        have IG := trivial
        have FX := trivial
        rotate_left
        simp only [Option.some.injEq, Prod.mk.injEq] at H
        obtain ⟨rfl, rfl, rfl, rfl⟩ := H
        have NV := trivial
        rotate_left
        all_goals
         try go_wp2_with (first | ((with_reducible refine gC 100 ?_); revert IG; intro IG; refine cQ (some 77) Try.func100 (spec_l1Rd_pick.calls kj53 g aJ nP 24 K9 yK w0 _ ((hG)) ((jP)) Tl.out) ?_; rintro Dr ⟨hi, hb, hk⟩; replace dU := am (Kd.R_mono (Kd.R_keep (IsS103.apart (show IsS103 w0 _ g aJ nP from hG) (wN) (by decide)) hk (fun _ h => h.2)) (fun _ h => h.1)); replace a3 := kb aC hk bP; replace a5 := kb aH hk cW; replace bF := kb nH hk f6; replace HK := am (KeepBut.trans (gG) hk (.inl rfl)); replace HB := am (hb); replace cD := am (hi); (try clear hb); (try clear hk); (try clear hi)) | ((with_reducible refine gate_dst (N := 91) rfl ?_); revert FX; intro FX; refine Kd.R_lit Kd.string _ 9 ?hg (N := 91) ?hd (xs := ([(⟨#[]⟩ : ByteArray), (⟨#[65]⟩ : ByteArray), (⟨#[122, 122]⟩ : ByteArray)] : List ByteArray)) (inner := [.string (⟨#[]⟩ : ByteArray), .string (⟨#[65]⟩ : ByteArray), .string (⟨#[122, 122]⟩ : ByteArray)]) (ok := fun _ => True) (okp := fun _ => True) ?hr ?hp (fun _ hk => hk) trivial (Below.refl _ _) (Nat.le_refl _) (by simp) ?_; (case hd => rfl); (case hg => rfl); (case hr => first | (go_simp; done) | (go_simp; rfl)); (case hp => exact (Reps.one (show Kd.M Kd.string _ _ _ (⟨#[]⟩ : ByteArray) [.string (⟨#[]⟩ : ByteArray)] from rfl) (Reps.one (show Kd.M Kd.string _ _ _ (⟨#[65]⟩ : ByteArray) [.string (⟨#[65]⟩ : ByteArray)] from rfl) (Reps.one (show Kd.M Kd.string _ _ _ (⟨#[122, 122]⟩ : ByteArray) [.string (⟨#[122, 122]⟩ : ByteArray)] from rfl) (Reps.none _ _))))); intro oz en zY hb hg_ hnew_; clear hg_ hnew_; (first | rw [← G6.out] at zY | (simp only [Int.reduceToNat] at zY; rw [← G6.out] at zY)); have zC := am (Kd.R_lower (Kd.R_new' zY (Kd.R_lt (wN))) (keep_size (w := w) (g := g) (row := none) (gG))); replace dU := am (Kd.R_elder' (wN) (Kd.R_base zY) hb); replace a3 := bB aC hb; replace a5 := bB aH hb; replace bF := bB nH hb; replace HK := am (KeepBut.trans (gG) (KeepBut.of_below hb g none) (.inl rfl)); replace HB := bS jP hb; replace cD := am (IsS103.below (hG) hb); clear hb zY; obtain ⟨Lt, Nw, SU⟩ := Kd.R_slice zC.1; subst SU) | ((with_reducible refine gC 101 ?_); revert FX; intro FX; refine cQ (some 92) Try.func101 (spec_l1Rd_of.calls kj53 g aJ yK _ _ Sw N5 Rl w0 _ ((hG)) ((jP)) (pC (Kd.R_reads' zC.1).2.2) ((Kd.R_reads' zC.1).2.1) (far_slice (IsS103.own_ne cD.out zC.1 (by decide))) La.out) ?_; rintro eo ⟨hi, hb, hk⟩; replace dU := am (Kd.R_mono (Kd.R_keep (IsS103.apart (show IsS103 w0 _ g aJ yK from hG) (wN) (by decide)) hk (fun _ h => h.2)) (fun _ h => h.1)); replace a3 := kb aC hk bP; replace a5 := kb aH hk cW; replace bF := kb nH hk f6; replace zC := am (Kd.R_mono (Kd.R_keep (IsS103.apart (show IsS103 w0 _ g aJ yK from hG) (rR zC.1) (by decide)) hk (fun _ h => h.2)) (fun _ h => h.1)); replace HK := am (KeepBut.trans (gG) hk (.inl rfl)); replace HB := am (hb); replace cD := am (hi); (try clear hb); (try clear hk); (try clear hi); have Ij := eL.1; have Iu := bZ.1; have Ik := gW.1; have Iv := d9.1; have Il := f6.1; have Iw := lL.1; obtain ⟨VN, VO, VP, VZ, W0, W3⟩ := cz3 bF; have Im := aV.1; have Ix := aU.1; have Io := cW.1; have Iy := eH.1; obtain ⟨VQ, VR, VS, W4, W5, W6⟩ := cz3 a5; obtain ⟨Q7, RW, SV⟩ := Kd.R_slice dU.1; subst SV) | ((with_reducible refine gC 100 ?_); revert NV; intro NV; refine cQ (some 77) Try.func100 (spec_l1Rd_pick.calls kj53 g aJ nP 24 K9 yK w0 _ ((hG)) ((jP)) Tl.out) ?_; rintro ep ⟨hi, hb, hk⟩; replace dU := am (Kd.R_mono (Kd.R_keep (IsS103.apart (show IsS103 w0 _ g aJ nP from hG) (wN) (by decide)) hk (fun _ h => h.2)) (fun _ h => h.1)); replace a3 := kb aC hk bP; replace a5 := kb aH hk cW; replace bF := kb nH hk f6; replace HK := am (KeepBut.trans (gG) hk (.inl rfl)); replace HB := am (hb); replace cD := am (hi); (try clear hb); (try clear hk); (try clear hi); have Ip := eL.1; have Iz := bZ.1; have Iq := gW.1; have Ja := d9.1; have Ir := f6.1; have Jb := lL.1; obtain ⟨VT, VU, VV, W7, W8, W9⟩ := cz3 bF; have Is := aV.1; have Jc := aU.1; have It := cW.1; have Jd := eH.1; obtain ⟨VW, VX, VY, WA, WB, WC⟩ := cz3 a5; obtain ⟨Q8, RX, SW⟩ := Kd.R_slice dU.1; subst SW))
        ·replace dU := am (Kd.R_drew dU.1)
         replace a3 := am (blk_drew a3.1)
         replace a5 := am (blk_drew a5.1)
         replace bF := am (blk_drew bF.1)
         replace cD := am (IsS103.drew cD.out)
         replace HK := am (keep_drew HK.out)
         replace HB := am (below_drew1 HB.1)
         refine sT [8] 9 (uA3 bF) (fun hHeld => ?_); refine with_tabW spec_l5Does.tab23 spec_l5Does.bits23 (fun HT_ HW_ => ?_)
         generalize Dr.drew = pr at dU a3 a5 bF cD HK HB hHeld ⊢
         refine pU 0 (some 80) ?_
         refine pU 2 (some 82) ?_
         refine tK3 1 (some 81) ?_
         refine oN 3 (some 83) fun K hK => ?_
         refine Kd.R_lit_step Kd.string _ 9 ?hg (N := 83) ?hd (xs := ([(⟨#[]⟩ : ByteArray), (⟨#[97]⟩ : ByteArray), (⟨#[122, 122]⟩ : ByteArray), (⟨#[116, 117, 110]⟩ : ByteArray)] : List ByteArray)) (inner := [.string (⟨#[]⟩ : ByteArray), .string (⟨#[97]⟩ : ByteArray), .string (⟨#[122, 122]⟩ : ByteArray), .string (⟨#[116, 117, 110]⟩ : ByteArray)]) (ok := fun _ => True) (okp := fun _ => True) ?hr ?hp (fun _ hk => hk) trivial (Below.refl _ _) (Nat.le_refl _) (by simp) ?_; (case hd => rfl); (case hg => rfl); (case hr => first | (go_simp; done) | (go_simp; rfl)); (case hp => exact (Reps.one (show Kd.M Kd.string _ _ _ (⟨#[]⟩ : ByteArray) [.string (⟨#[]⟩ : ByteArray)] from rfl) (Reps.one (show Kd.M Kd.string _ _ _ (⟨#[97]⟩ : ByteArray) [.string (⟨#[97]⟩ : ByteArray)] from rfl) (Reps.one (show Kd.M Kd.string _ _ _ (⟨#[122, 122]⟩ : ByteArray) [.string (⟨#[122, 122]⟩ : ByteArray)] from rfl) (Reps.one (show Kd.M Kd.string _ _ _ (⟨#[116, 117, 110]⟩ : ByteArray) [.string (⟨#[116, 117, 110]⟩ : ByteArray)] from rfl) (Reps.none _ _))))))
         intro Dk Dl zW hb hg_ hnew_
         clear hg_ hnew_
         (first | rw [← wJ.out] at zW | (simp only [Int.reduceToNat] at zW; rw [← wJ.out] at zW))
         have k7 := am (Kd.R_lower (Kd.R_new' zW (Kd.R_lt (wN))) (keep_size (w := w) (g := g) (row := none) (gG)))
         replace dU := am (Kd.R_elder' (wN) (Kd.R_base zW) hb)
         replace a3 := bB aC hb
         replace a5 := bB aH hb
         replace bF := bB nH hb
         replace HK := am (KeepBut.trans (gG) (KeepBut.of_below hb g none) (.inl rfl))
         replace HB := bS jP hb
         replace cD := am (IsS103.below (hG) hb)
         clear hb zW
         obtain ⟨WN, ZP, P3⟩ := Kd.R_slice k7.1
         (first | subst P3 | (injection P3 with f1_ f2_ f3_; have f4_ := f1_.symm; have f5_ := f3_.symm; clear f1_ f2_ f3_; subst f4_; subst f5_))
         refine hK.out _ _ (uA3 bF).1 (fun hHeld => ?_)
         clear hK K
         refine nM ?_
         refine oN 4 (some 84) fun K hK => ?_
         refine gQ Try.func101 (spec_l1Rd_of.calls kj53 g aJ yK _ _ wA CN Rk w0 _ ((hG)) ((jP)) (pC (Kd.R_reads' k7.1).2.2) ((Kd.R_reads' k7.1).2.1) (far_slice (IsS103.own_ne cD.out k7.1 (by decide))) PP.out) ?_
         rintro Sd ⟨hi, hb, hk⟩
         replace dU := am (Kd.R_mono (Kd.R_keep (IsS103.apart (show IsS103 w0 _ g aJ yK from hG) (wN) (by decide)) hk (fun _ h => h.2)) (fun _ h => h.1))
         replace a3 := kb aC hk bP
         replace a5 := kb aH hk cW
         replace bF := kb nH hk f6
         replace k7 := am (Kd.R_mono (Kd.R_keep (IsS103.apart (show IsS103 w0 _ g aJ yK from hG) (rR k7.1) (by decide)) hk (fun _ h => h.2)) (fun _ h => h.1))
         replace HK := am (KeepBut.trans (gG) hk (.inl rfl))
         replace HB := am (hb)
         replace cD := am (hi)
         (try clear hb)
         (try clear hb2)
         (try clear hk)
         (try clear hi)
         refine hK.out _ _ (uA3 bF).1 (fun hHeld => ?_)
         clear hK K
         refine nM ?_
         refine oN 5 (some 85) fun K hK => ?_
         refine value_ (w1 := ?_) (v := ?_) (by rfl) rfl ?_ ?_
         rotate_left 2
         ·go_simp
          constructor
          ·rfl
          ·rfl
         refine hK.out _ _ ⟨(blk_cell (blk_alloc bF.1 _) 0).trans rfl, (blk_cell (blk_alloc bF.1 _) 1).trans rfl, (blk_cell (blk_alloc bF.1 _) 2).trans rfl⟩ (fun hHeld => ?_)
         clear hK K
         refine nM ?_
         refine oN 6 (some 86) fun K hK => ?_
         refine Kd.R_append_step Kd.string w.heap.size (by rfl) (.tmp 81) (.tmp 85) 23 9 (.string ⟨#[]⟩) 16 rfl Try.underlying23 info9 rfl (by decide) (by omega) uX jY CN [.string CN] (fun k_ => some k_ ≠ (.slice WN wA.length ZP : Value).ownBlock) (fun _ => False) rfl rfl ?aP (fun _ hk => hk.elim) ?aF ?aO (Below.refl _ _) ?aS ?aL ?_
         (case aP => exact rfl)
         (case aF => exact (fun k_ hk => Kd.fresh' (Kd.R_lt (rR k7.1)) k_ hk))
         (case aO => exact (by refine rR ?_; exact Kd.R_mono dU.1 (fun _ hk => hk.2)))
         (case aS => exact (keep_size (w := w) (g := g) (row := none) (gG)))
         (case aL => have := QX.out; omega)
         intro ox Se ho hb hg hat
         rw [← IU.out] at ho
         replace a3 := gkR aC hg dU a3
         replace a5 := gkR aH hg dU a5
         replace bF := gkR nH hg dU bF
         replace k7 := am (Kd.R_after (ok := (fun _ => True)) (rR k7.1) hg hat)
         replace HB := am (below_weaken (jP) HL.out hb)
         replace cD := am (IsS103.grown (hG) hg (IsS103.own_ne cD.out dU.1 (by decide)))
         replace HK := am (KeepBut.trans (gG) (KeepBut.of_grown hg g) (Kd.R_base2 dU.1))
         have NP := am (ho)
         clear dU
         clear ho hb hg hat
         obtain ⟨NI, P2, P4⟩ := Kd.R_slice NP.1
         (first | subst P4 | (injection P4 with f1_ f2_ f3_; have f4_ := f1_.symm; have f5_ := f3_.symm; clear f1_ f2_ f3_; subst f4_; subst f5_))
         refine hK.out _ _ (uA3 bF).1 (fun hHeld => ?_)
         clear hK K
         refine nM ?_
         refine pU 7 (some 87) ?_
         refine last_ (i := 8) (N := none) (bz 9 511) rfl rfl (one_of HT_.out (by kernel_rfl)) (by decide) (fun K hK => ?_)
         have db : Se.cell? ⟨g8, 2, none⟩ = some (uX) := (blk_cell bF.1 2).trans rfl
         have Pr := blk_frozen bF.1 2
         have Cd := bZ.1
         have Ce := d9.1
         have Bw := eL.1
         have Bx := gW.1
         refine skip_ (w1 := ?_) (by rfl) rfl ?_ ?_
         rotate_left
         ·go_simp
          rfl
         refine hK.out _ _ ?_
         clear hK K
         refine done_ (done_of HT_.out (by kernel_rfl)) ?_
         have Px := eL.1
         have Qc := bZ.1
         have Py := gW.1
         have Qd := d9.1
         have Pz := f6.1
         have Qe := lL.1
         obtain ⟨Be, Bf, Bg, Bo, Bp, Bq⟩ := cz3 bF
         have Qa := aV.1
         have Qf := aU.1
         have Qb := cW.1
         have Qg := eH.1
         obtain ⟨Bh, Bi, Bj, Br, Bt, Bu⟩ := cz3 a5
         try go_wp2
         refine bodyPost_ret (results_cell_row rfl _ _ a8 106 #[.int .i64 f8, .string jX, .slice NI Dy.length P2] (0, 0) _ rfl (by refine rB ?_; refine blk_put (cs := #[.int .i64 f8, .string jX, .slice none 0 0]) ?_ 2 _ rfl; refine rB ?_; refine blk_put (cs := #[.int .i64 f8, .string (⟨#[]⟩ : ByteArray), .slice none 0 0]) ?_ 1 _ rfl; refine rB ?_; refine blk_put (cs := #[.int .i64 0, .string (⟨#[]⟩ : ByteArray), .slice none 0 0]) ?_ 0 _ rfl; refine rB ?_; refine blk_far ?_ d9.1 _; refine rB ?_; exact a5.1) Try.underlying106 rfl (by kernel_rfl)) rfl ?_
         exact ⟨_, eR, by refine rR ?_; exact Kd.R_mono (fR (fR (fR (Kd.R_far (p := ⟨g8, 2, none⟩) (Kd.R_types (tR NP bF) a5.1 (by decide)) (fun _ hk => hk.1.2) (.slice NI Dy.length P2))))) (fun _ hk => trivial), hG, jP, gG⟩
        ·refine bodyPost_ret (results_cell_row rfl _ _ a8 106 #[.int .i64 f8, .string N5, .slice Q7 jY.length RW] (0, 0) _ rfl (by refine rB ?_; refine blk_put (cs := #[.int .i64 f8, .string N5, .slice none 0 0]) ?_ 2 _ rfl; refine rB ?_; refine blk_put (cs := #[.int .i64 f8, .string (⟨#[]⟩ : ByteArray), .slice none 0 0]) ?_ 1 _ rfl; refine rB ?_; refine blk_put (cs := #[.int .i64 0, .string (⟨#[]⟩ : ByteArray), .slice none 0 0]) ?_ 0 _ rfl; refine rB ?_; refine blk_far ?_ d9.1 _; refine rB ?_; exact a5.1) Try.underlying106 rfl (by kernel_rfl)) rfl ?_
         exact ⟨_, eR, by refine rR ?_; exact Kd.R_mono (fR (fR (fR (Kd.R_far (p := ⟨g8, 1, none⟩) (Kd.R_types (tR dU bF) a5.1 (by decide)) (fun _ hk => hk.1.2) (.string N5))))) (fun _ hk => trivial), hG, jP, gG⟩
        ·refine bodyPost_ret (results_cell_row rfl _ _ a8 106 #[.int .i64 f8, .string jX, .slice Q8 jY.length RX] (0, 0) _ rfl (by refine rB ?_; refine blk_put (cs := #[.int .i64 f8, .string jX, .slice none 0 0]) ?_ 2 _ rfl; refine rB ?_; refine blk_put (cs := #[.int .i64 f8, .string (⟨#[]⟩ : ByteArray), .slice none 0 0]) ?_ 1 _ rfl; refine rB ?_; refine blk_put (cs := #[.int .i64 0, .string (⟨#[]⟩ : ByteArray), .slice none 0 0]) ?_ 0 _ rfl; refine rB ?_; exact a5.1) Try.underlying106 rfl (by kernel_rfl)) rfl ?_
         exact ⟨_, eR, by refine rR ?_; exact Kd.R_mono (fR (fR (fR (tR dU a5)))) (fun _ hk => trivial), hG, jP, gG⟩
end Go.Proofs.Ytaofjgnhapnndaa.Q
namespace Go.Proofs.Ytaofjgnhapnndaa.Q
open Go.RowKit Go.Proofs.YtaofjgnhapnndaaW.PrintWords Go.Proofs.YtaofjgnhapnndaaW.PrintLast Go.Proofs.YtaofjgnhapnndaaW.PrintMore
set_option linter.unusedVariables false
set_option linter.unusedSimpArgs false
def spec_l5Base.l0 : Nat → List ByteArray → Int → List Int → Int → List ByteArray → Option (List ByteArray × (List (S56)) × Int)
 | 0, _, _, _, _, _ => none
 | k + 1, b, a, d, g, c => if a < (b.length : Int) then ((spec_l1Rd_pick.f k d g 5).bind fun e => (if e.1 > 0 then (if 0 ≤ a then (if c.length < 8796093022208 then (spec_l5Base.l0 k b (wrap64 (a + 1)) d e.2 (c ++ [rdOf ByteArray.empty b a])) else (none)) else (none)) else (spec_l5Base.l0 k b (wrap64 (a + 1)) d e.2 c))) else (some (c, ([] : List (S56)), g))
def spec_l5Base.f (k : Nat) (aJ : List Int) (cV : Int) : Option (List ByteArray × (List (S56)) × Int) := spec_l5Base.l0 k (([(⟨#[106]⟩ : ByteArray), (⟨#[107, 101, 103]⟩ : ByteArray), (⟨#[116, 117, 110]⟩ : ByteArray), (⟨#[118, 97, 116]⟩ : ByteArray), (⟨#[119]⟩ : ByteArray)] : List ByteArray)) 0 aJ cV ([] : List ByteArray)
def spec_l5Base.T7 : Bool × List (List Nat × List Nat) := (true, [([], []), ([0], [0]), ([], []), ([], []), ([2, 3], [2, 3]), ([4], [4]), ([5], [5]), ([1, 6], [1, 6]), ([0, 1, 2, 3, 4, 5, 6, 7], []), ([8, 7, 7, 0, 1, 2, 3, 4, 5, 6, 7], [7, 8])])
def spec_l5Base.B7 : List Nat := [0, 1, 0, 0, 12, 28, 60, 127, 255, 511]
theorem spec_l5Base.tab7 : rtab .any (opsOf Try.f128 7) = spec_l5Base.T7 := by kernel_rfl
theorem spec_l5Base.bits7 : waitsOk spec_l5Base.T7.2 spec_l5Base.B7 = true := by kernel_rfl
theorem spec_l5Base.calls (k : Nat) (g : Nat) (aJ : List Int) (cV : Int) (r1 : List ByteArray) (r2 : List (S56)) (r3 : Int) (w0 w : World) (hI : IsS103 w0 w g aJ cV) (hB : Below w0.heap.size w0 w) (h : spec_l5Base.f k aJ cV = some (r1, r2, r3)) :
  Calls Try.prog 128 #[.pointer (some ⟨g, 0, none⟩)] w fun e w' => ∃ v0_ : Value, e = .returned (.agg #[v0_, .slice none 0 0]) ∧ Kd.R Kd.string 9 w' w.heap.size (fun _ => True) v0_ r1 ∧ IsS103 w0 w' g aJ r3 ∧ Below w0.heap.size w0 w' ∧ KeepBut w w' g none := by
 have hu31 := Try.underlying31
 have cD := am hI
 have HK := am (KeepBut.refl w g none)
 have HL := am hB.size
 clear hI
 have HW0 := am hB.size
 have HB := am hB
 clear hB
 unfold spec_l5Base.f at h
 have H := h
 clear h
 obtain ⟨qC, sM⟩ := yv (([(⟨#[106]⟩ : ByteArray), (⟨#[107, 101, 103]⟩ : ByteArray), (⟨#[116, 117, 110]⟩ : ByteArray), (⟨#[118, 97, 116]⟩ : ByteArray), (⟨#[119]⟩ : ByteArray)] : List ByteArray)); first | replace H := bW sM H | rw [← sM.1] at H
 have H' := am H
 repeat clear H
 go_enter Try.func128, Try.ntmps128
 go_wp2_with (first | ((with_reducible refine gD 2 ?_); refine bX 2 #[.slice none 0 0, .slice none 0 0] 31 ?_; intro a6 hg w2 hbox hb; replace HB := bS nU hb; have a3 := am hbox; have bR := am (yV : w.heap.size ≤ a6); have cJ := am (Nat.le_trans HW0.out (yV : w.heap.size ≤ a6) : w0.heap.size ≤ a6); replace HK := kU w g nV hb; have e5 := am (by rw [hg]; exact Nat.ne_of_lt (IsS103.lt (show IsS103 w0 _ g aJ cV from iY)) : g ≠ a6); have bP := am (by rw [hg]; exact Nat.ne_of_gt (IsS103.lt (show IsS103 w0 _ g aJ cV from iY)) : a6 ≠ g); replace cD := am (IsS103.below iY hb); clear hb hbox hg) | ((with_reducible refine gD 3 ?_); refine bX 3 #[.slice none 0 0, .slice none 0 0] 31 ?_; intro a8 hg w3 hbox hb; replace HB := bS CJ hb; have a5 := am hbox; have eO := am (yU : w.heap.size ≤ a8); have eZ := am (Nat.le_trans HW0.out (yU : w.heap.size ≤ a8) : w0.heap.size ≤ a8); replace HK := kU w g vU hb; have aU := nL aC hg; have aV := nG aC hg; replace a3 := bB aC hb; have eH := am (by rw [hg]; exact Nat.ne_of_lt (IsS103.lt (show IsS103 w0 _ g aJ cV from oG)) : g ≠ a8); have cW := am (by rw [hg]; exact Nat.ne_of_gt (IsS103.lt (show IsS103 w0 _ g aJ cV from oG)) : a8 ≠ g); replace cD := am (IsS103.below oG hb); clear hb hbox hg; have Z4 := nZ2 aV aU cW eH; have Z6 := cz2 a5) | ((with_reducible refine gate_dst (N := 7) rfl ?_); refine lS 9 7 sM ?_; intro nO w7 PM hb; have eE := am (Kd.R_lower PM (kz w g pY)); replace a3 := am (blk_below (g := a6) (o := .cells #[.slice none 0 0, .slice none 0 0] 31 (0, 0)) (qF a3 aU) hb); replace a5 := am (blk_below (g := a8) (o := .cells #[.slice none 0 0, .slice none 0 0] 31 (0, 0)) Ct hb); replace HK := kU w g pY hb; replace HB := bS lG hb; replace cD := am (IsS103.below (show IsS103 w0 ((w3.setCell ⟨a8, 0, none⟩ (.slice none 0 0)).setCell ⟨a8, 1, none⟩ (.slice none 0 0)) g aJ cV from gM) hb); clear hb PM))
 go_loopg [5] k (fun kq v5 w' => ∃ (aW : Int) (eT : Int) (lK : List ByteArray) (mV : Value), v5 = .int .i64 aW ∧ Aside0 (spec_l5Base.l0 kq qC aW aJ eT lK = some (r1, r2, r3)) ∧ Aside0 (kq ≤ k) ∧ Aside0 (Kd.R Kd.string 9 w' w.heap.size (fun k_ => some k_ ≠ (mV : Value).ownBlock) nO qC) ∧ Aside0 (Kd.R Kd.string 9 w' w.heap.size (fun k_ => some k_ ≠ (nO : Value).ownBlock) mV lK) ∧ Aside0 (w'.heap[a6]? = some (.cells #[(.slice none 0 0), (.slice none 0 0)] 31 (0, 0))) ∧ Aside0 (w'.heap[a8]? = some (.cells #[mV, (.slice none 0 0)] 31 (0, 0))) ∧ Aside0 (IsS103 w0 w' g aJ eT) ∧ Aside0 (KeepBut w w' g none) ∧ Aside0 (Below w0.heap.size w0 w'))
 case atStart => exact ⟨(0), (cV), (([] : List ByteArray)), (.slice none 0 0), aQ, H', ⟨Nat.le_refl _⟩, ⟨by refine rR ?_; exact Kd.R_mono eE.1 (fun _ hk => (by simp [Value.ownBlock]))⟩, ⟨by first | exact Kd.R_nil _ _ _ _ _ | exact Kd.N_nil _ _ _ _ _ | exact Kd.V_nil _ _ _ _ _ | exact Kd.Q_nil _ _ _ _ _ | exact Kd.S_nil _ _ _ _ _⟩, ⟨rB a3.1⟩, ⟨rB a5.1⟩, ⟨gM⟩, ⟨pY⟩, ⟨lG⟩⟩
 clear H'
 try clear Z6
 obtain ⟨aW, eT, lK, mV, rfl, HA, HK1, eC, f3, a3, a5, cD, HK, HB⟩ := hrel
 cases gk with
 | zero => exact absurd HA.out (by simp [spec_l5Base.l0])
 | succ k1 =>
  have H := HA.out
  clear HA
  simp only [spec_l5Base.l0] at H
  refine ic H ?_ ?_ <;> clear H <;> intro vQ H
  obtain ⟨⟨bT, b9⟩, VE, H⟩ := bd H
  dsimp only at H
  by_cases yR : bT > 0
  rw [if_pos yR] at H
  have qH : decide (0 < bT) = true := decide_eq_true yR
  clear yR
  obtain ⟨tD, H⟩ := cN H
  obtain ⟨ID, H⟩ := cL H
  obtain ⟨NH, y8⟩ := yv (lK ++ [rdOf ByteArray.empty qC aW]); first | replace H := bW y8 H | rw [← y8.1] at H
  have H' := am H
  repeat clear H
  obtain ⟨jf, Nn, Oq⟩ := Kd.R_slice eC.1
  subst Oq
  have IH := trivial
  rotate_left
  rw [if_neg yR] at H
  have qH : decide (0 < bT) = false := decide_eq_false yR
  clear yR
  have H' := am H
  repeat clear H
  obtain ⟨jJ, eM, yG⟩ := Kd.R_slice eC.1
  subst yG
  have IH := trivial
  rotate_left
  obtain ⟨rfl, rfl, rfl⟩ := sZ3 H
  repeat clear H
  obtain ⟨WS, ZU, M2⟩ := Kd.R_slice eC.1
  subst M2
  have kw := nZ2 aV aU cW eH
  have kx := cz2 a5
  obtain ⟨Lo, Nr, Ou⟩ := Kd.R_slice f3.1
  subst Ou
  have Uk := nZ1 bP e5
  have Ul := cz2 a3
  rotate_left
  all_goals
   try go_wp2_with (first | ((with_reducible refine gC 100 ?_); revert IH; intro IH; refine cQ (some 15) Try.func100 (spec_l1Rd_pick.calls k1 g aJ eT 5 bT b9 w0 _ (gM) (lG) VE.out) ?_; rintro Ds ⟨hi, hb, hk⟩; replace eC := iR gM p2 hk; replace f3 := iR gM (rR f3.1) hk; replace a3 := kb aC hk bP; replace a5 := kb aH hk cW; replace HK := kT w g pY hk; replace HB := am hb; replace cD := am hi; (try clear hb); (try clear hk); (try clear hi)))
  ·replace eC := RD eC
   replace f3 := RD f3
   replace a3 := BD a3
   replace a5 := BD a5
   replace cD := am (IsS103.drew cD.out)
   replace HK := am (keep_drew HK.out)
   replace HB := am (below_drew1 HB.1)
   obtain ⟨wK, EX, rY, UR, UY⟩ := aS (am (Kd.R_reads' eC.1).2.2) b0 aW
   cases EX
   refine sT (S := fun w' => w'.cell? ⟨a8, 0, none⟩ = some (mV) ∧ w'.cell? ⟨a8, 1, none⟩ = some (.slice none 0 0) ∧ w'.cell? (wK.add (aW).toNat) = some (.string (rdOf ByteArray.empty qC aW))) [7, 9] 10 ⟨⟨(blk_cell a5.1 0).trans rfl, (blk_cell a5.1 1).trans rfl, rY⟩⟩ (fun hHeld => ?_)
   refine with_tabW spec_l5Base.tab7 spec_l5Base.bits7 (fun HT_ HW_ => ?_)
   generalize Ds.drew = qe at eC f3 a3 a5 cD HK HB rY hHeld ⊢
   refine pU4 0 2 3 4 ?_
   refine tK3 1 (some 18) ?_
   refine tK3 5 (some 22) ?_
   refine oN 6 (some 23) fun K hK => ?_
   refine value_ (w1 := ?_) (v := ?_) (by rfl) rfl ?_ ?_
   rotate_left 2
   ·go_simp
    constructor
    ·rfl
    ·rfl
   refine hK.out _ _ ⟨(blk_cell (blk_alloc a5.1 _) 0).trans rfl, (blk_cell (blk_alloc a5.1 _) 1).trans rfl, (World.cell?_alloc_lt _ _ _ (World.block_lt_of_cell? _ _ (hHeld.2.2))).trans (hHeld.2.2)⟩ (fun hHeld => ?_)
   clear hK K
   refine nM ?_
   refine lN 7 (some 24) fun K hK => ?_
   refine Kd.R_append_step Kd.string w.heap.size (by rfl) (.tmp 18) (.tmp 23) 23 9 (.string ⟨#[]⟩) 16 rfl Try.underlying23 info9 rfl (by decide) (by omega) mV lK (rdOf ByteArray.empty qC aW) [.string (rdOf ByteArray.empty qC aW)] (fun k_ => some k_ ≠ (.slice (some wK) qC.length Nn : Value).ownBlock) (fun _ => False) rfl rfl ?aP (fun _ hk => hk.elim) ?aF ?aO (Below.refl _ _) ?aS ?aL ?_
   (case aP => exact rfl)
   (case aF => exact (fun k_ hk => Kd.fresh' (Kd.R_lt p2) k_ hk))
   (case aO => exact (rR f3.1))
   (case aS => exact (kz w g pY))
   (case aL => have := ID.out; omega)
   intro KB Kp ho hb hg hat
   rw [← y8.out] at ho
   replace eC := am (Kd.R_after (ok := (fun _ => True)) (by refine rR ?_; exact Kd.R_mono eC.1 (fun _ hk => ⟨trivial, hk⟩)) hg hat)
   replace a3 := gkR aC hg f3 a3
   replace a5 := gkR aH hg f3 a5
   replace HB := am (below_weaken lG HL.out hb)
   replace cD := am (IsS103.grown gM hg (IsS103.own_ne cD.out f3.1 (by decide)))
   replace HK := am (KeepBut.trans pY (KeepBut.of_grown hg g) (Kd.R_base2 f3.1))
   have mC := am ho
   clear f3
   clear ho hb hg hat
   obtain ⟨Lm, Np, Af⟩ := Kd.R_slice mC.1
   (first | subst Af | (obtain ⟨f4_, f5_⟩ := sj Af; subst f4_; subst f5_))
   refine hK.out _ _ ?_
   clear hK K
   refine nM ?_
   refine pU1 8 ?_
   refine lN 9 none fun K hK => ?_
   have ne : Kp.cell? ⟨a8, 0, none⟩ = some (mV) := (blk_cell a5.1 0).trans rfl
   have Zn := blk_frozen a5.1 0
   have Je := aU.1
   have Hi := aV.1
   refine skip_ (w1 := ?_) (by rfl) rfl ?_ ?_
   rotate_left
   ·go_simp
    rfl
   refine hK.out _ _ ?_
   clear hK K
   refine dN ?_
   try go_wp2
   go_roundg k1
   case measure => have := HK1.out; omega
   case rel => exact ⟨(wrap64 (aW + 1)), (b9), (NH), (.slice Lm NH.length Np), aQ, H', ⟨by have := HK1.out; omega⟩, ⟨by refine rR ?_; exact Kd.R_mono (fR (tR eC a5)) (fun _ hk => hk.1.2)⟩, ⟨mR mC a5⟩, ⟨qF a3 aU⟩, ⟨by refine rB ?_; refine blk_put (cs := #[mV, .slice none 0 0]) ?_ 0 _ rfl; refine rB ?_; exact a5.1⟩, ⟨gM⟩, ⟨pY⟩, ⟨lG⟩⟩
  ·go_roundg k1
   case measure => have := HK1.out; omega
   case rel => exact ⟨(wrap64 (aW + 1)), (b9), (lK), (mV), aQ, H', ⟨by have := HK1.out; omega⟩, ⟨rR eC.1⟩, ⟨rR f3.1⟩, ⟨rB a3.1⟩, ⟨rB a5.1⟩, ⟨gM⟩, ⟨pY⟩, ⟨lG⟩⟩
  ·refine cR a6 31 #[.slice Lo lK.length Nr, .slice none 0 0] (qP a3) Try.underlying31 ?_
   exact ⟨_, eR, mR f3 a3, gM, lG, pY⟩
end Go.Proofs.Ytaofjgnhapnndaa.Q
