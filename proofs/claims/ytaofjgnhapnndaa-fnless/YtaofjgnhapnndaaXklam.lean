/- Texts that the row needs: words on memory and rows, the contracts of the functions it reaches, and the plain lemmas on what they compute. -/
import Derived.Test.YtaofjgnhapnndaaXklal
open Go.Proofs.YtaofjgnhapnndaaFkl
namespace Go.Proofs.Ytaofjgnhapnndaa.Q
open Go.RowKit Go.Proofs.YtaofjgnhapnndaaW.PrintWords Go.Proofs.YtaofjgnhapnndaaW.PrintLast Go.Proofs.YtaofjgnhapnndaaW.PrintMore
set_option linter.unusedVariables false
set_option linter.unusedSimpArgs false
mutual
noncomputable def dB.j0 : Nat → List Int → List Int → Bool → Option (Bool)
 | 0, _, _, _ => none
 | k + 1, e, c, g => if g = true then (some true) else ((mE.f k e).bind fun a => ((qL.f k a.1 a.2.1 a.2.2.1 a.2.2.2).bind fun b => ((eD.f k a.1 a.2.1 a.2.2.1 a.2.2.2).bind fun d => (if b.2.2 = d.2.2 then ((dK.f k b.1 b.2.1 d.1 d.2.1).bind fun h => (if h = true then (if b.2.2 = 0 then ((gF.f k a.1 a.2.1).bind fun i => (if i = true then ((gF.f k b.1 b.2.1).bind fun j => (if j = true then (if b.2.2 > 1 then (none) else (dB.j1 k c a.2.2.1 false a.1 a.2.1)) else (none))) else (if b.2.2 > 1 then (none) else (dB.j1 k c a.2.2.1 false a.1 a.2.1)))) else (if b.2.2 > 1 then ((dK.f k b.1 b.2.1 a.1 a.2.1).bind fun l => (dB.j1 k c a.2.2.1 (!l) a.1 a.2.1)) else (dB.j1 k c a.2.2.1 false a.1 a.2.1))) else (none))) else (none)))))
noncomputable def dB.j1 : Nat → List Int → ByteArray → Bool → List ByteArray → List (S56) → Option (Bool)
 | 0, _, _, _, _, _ => none
 | k + 1, c, g, h, d, b => if h = true then (none) else ((oZ.f k d b g).bind fun a => ((fV.f k d b g).bind fun e => (if a.2.2 = e.2.2 then ((dK.f k a.1 a.2.1 e.1 e.2.1).bind fun i => (if i = true then (if a.2.2 = 0 then (if (a.2.1.length : Int) = (wrap64 ((b.length : Int) - 1)) then ((gF.f k d b).bind fun j => (if j = true then ((gF.f k a.1 a.2.1).bind fun l => (dB.j2 k c (!l))) else (dB.j2 k c false))) else (none)) else (dB.j2 k c false)) else (none))) else (none))))
noncomputable def dB.j2 : Nat → List Int → Bool → Option (Bool)
 | 0, _, _ => none
 | k + 1, d, e => if e = true then (none) else ((eT.f k d).bind fun a => ((oW.f k a.1 a.2.1 a.2.2.1 a.2.2.2).bind fun b => ((cK.f k a.1 a.2.1 a.2.2.1 a.2.2.2).bind fun c => (if b.2.2 = c.2.2 then ((dK.f k b.1 b.2.1 c.1 c.2.1).bind fun g => (if g = true then (if b.2.2 = 0 then ((gF.f k b.1 b.2.1).bind fun h => ((gF.f k a.1 a.2.1).bind fun i => (if (h == i) = true then (if (b.2.1.length : Int) = (wrap64 ((a.2.1.length : Int) + 1)) then (if b.2.2 < 2 then (some true) else (none)) else (none)) else (none)))) else (if b.2.2 < 2 then (some true) else ((dK.f k b.1 b.2.1 a.1 a.2.1).bind fun j => (some j)))) else (none))) else (none)))))
end
noncomputable def dB.f (k : Nat) (l0 : List Int) (l1 : List Int) : Option (Bool) := if (l0.length : Int) > 1048576 then (dB.j0 k l0 l1 true) else (dB.j0 k l0 l1 (decide ((l1.length : Int) > 1048576)))
def dB.T15 : Bool × List (List Nat × List Nat) := (true, [([], []), ([], []), ([0, 1], [0, 1]), ([2], [2]), ([3], [3]), ([3], [3]), ([4, 5, 3, 3], [3, 4, 5]), ([3, 6], [3, 6]), ([7, 6], [7]), ([8], [8]), ([9, 8], [8, 9]), ([10, 8, 8], [8, 10]), ([11], [11]), ([12, 11, 11], [11, 12]), ([11], [11]), ([14, 13, 11], [11, 14]), ([13, 15, 11], [11, 13, 15]), ([16, 15, 11], [11, 16]), ([17], [17]), ([18, 17], [17, 18]), ([19, 17], [17, 19]), ([17], [17]), ([21, 17], [17, 21]), ([22, 17], [17, 22]), ([23, 17], [17, 23]), ([20, 24, 17], [17, 20, 24]), ([17, 25, 11], [11, 17, 25]), ([11, 26, 8], [8, 11, 26]), ([8, 27], [8, 27]), ([28, 17], [28]), ([29], [29]), ([30, 29], [29, 30]), ([31, 29, 29], [29, 31]), ([32], [32]), ([32], [32]), ([33, 34, 32, 32], [32, 33, 34]), ([32, 35, 29], [29, 32, 35]), ([29, 36], [29, 36]), ([37, 35, 0, 1, 2, 3, 4, 5, 6, 7, 8, 9, 10, 11, 12, 13, 14, 15, 16, 17, 18, 19, 20, 21, 22, 23, 24, 25, 26, 27, 28, 29, 30, 31, 32, 33, 34, 35, 36, 37], [37])])
def dB.B15 : List Nat := [0, 0, 3, 7, 15, 15, 63, 127, 255, 511, 1023, 2047, 4095, 8191, 4095, 32767, 65535, 131071, 262143, 524287, 1048575, 262143, 2359295, 6553599, 14942207, 33554431, 67108863, 134217727, 268435455, 536870911, 1073741823, 2147483647, 4294967295, 8589934591, 8589934591, 34359738367, 68719476735, 137438953471, 274877906943]
theorem dB.P9 : rtab .any (opsOf Try.f20 15) = dB.T15 := by kernel_rfl
theorem dB.GZ : kP dB.T15.2 dB.B15 = true := by kernel_rfl
set_option maxHeartbeats 8000000 in
set_option maxRecDepth 100000 in
theorem dB.calls (k : Nat) (A0 : Option Addr) (c0 : Nat) (l0 : List Int) (A1 : Option Addr) (c1 : Nat) (l1 : List Int) (r : Bool) (w : World) (sJ : Kd.C (Kd.int .u8) w A0 l0.length l0) (yR : l0.length ≤ c0) (FG : Kd.C (Kd.int .u8) w A1 l1.length l1) (FF : l1.length ≤ c1) (h : dB.f k l0 l1 = some r) :
  Calls Try.prog 20 #[.slice A0 l0.length c0, .slice A1 l1.length c1] w fun e w' => e = .returned (.bool r) ∧ Below w.heap.size w w' := by
 have hu31 := Try.underlying31
 obtain ⟨tO, QP⟩ := mZ2 sJ yR
 obtain ⟨IL, LA⟩ := mZ2 FG FF
 clear sJ yR FG FF
 have HB := am (Below.refl w.heap.size w)
 unfold dB.f at h
 have H := h
 clear h
 have Od := am H
 clear H
 go_enter Try.func20, Try.ntmps20
 go_upto_region 1 with ((fail))
 go_cut [30] (fun v30 wc => ∃ (kq : Nat) (Uj : Bool), v30 = .bool Uj ∧ aC (dB.j0 kq l0 l1 Uj = some r) ∧ aC (kq ≤ k) ∧ aC (Below w.heap.size w wc))
 case first =>
  have H := Od.1
  clear Od
  by_cases c4 : (l0.length : Int) > 1048576
  ·rw [if_pos c4] at H
   have yF : decide (1048576 < (l0.length : Int)) = true := decide_eq_true c4
   have Le : decide (1048576 < l0.length) = true := decide_eq_true (by omega)
   clear c4
   (first | rw [yF] | (simp only [q8, uS]; rw [yF]) | skip)
   have H' := am H
   repeat clear H
   go_wp2
   go_meet
   exact ⟨_, (true), dM, H', ⟨by first | omega | exact Nat.le_refl _⟩, ⟨eG⟩⟩
  rw [if_neg c4] at H
  have yF : decide (1048576 < (l0.length : Int)) = false := decide_eq_false c4
  have Le : decide (1048576 < l0.length) = false := decide_eq_false (by omega)
  clear c4
  (first | rw [yF] | (simp only [q8, uS]; rw [yF]) | skip)
  have H' := am H
  repeat clear H
  go_wp2
  go_meet
  exact ⟨_, (decide ((l1.length : Int) > 1048576)), dM, H', ⟨by first | omega | exact Nat.le_refl _⟩, ⟨eG⟩⟩
 clear Od
 try clear c1
 obtain ⟨kq, Uj, rfl, HA, HJ2, HB⟩ := hcut
 cases kq with
 | zero => exact absurd HA.out (by simp [dB.j0])
 | succ kj2 =>
  have H := HA.out
  clear HA
  simp only [dB.j0] at H
  refine tC H ?_ ?_ <;> clear H <;> intro c5 H <;> subst c5
  ·obtain rfl := Option.some.inj H
   repeat clear H
   go_wp2
   go_ret
   exact ⟨eR, eG⟩
  ·obtain ⟨⟨l5, dC, dZ, lJ⟩, A6, H⟩ := bd H
   dsimp only at H
   obtain ⟨⟨iI, m0, qZ⟩, A7, H⟩ := bd H
   dsimp only at H
   obtain ⟨⟨eH, qE, AP⟩, A8, H⟩ := bd H
   dsimp only at H
   have HC9 := am H
   clear H
   go_upto_region 6 with (first | ((with_reducible refine gC 66 ?_); refine cE (some 33) Try.func66 (mE.calls kj2 _ _ l0 l5 dC dZ lJ _ (pB tO) QP.1 A6.out) ?_; rintro e w10 ⟨Aa, LE, Zd, rfl, f3, lL, Lq, hb⟩; refine ⟨_, rfl, ?_⟩; have kZ := am (Kd.d9 (Kd.aM (ok' := fun k_ => some k_ ≠ (Zd : Value).ownBlock) f3 (fun _ hk_ => hk_.2)) (aG eG)); have eP := am (Kd.jD (Kd.aJ (ok' := fun k_ => some k_ ≠ (Aa : Value).ownBlock ∧ some k_ ≠ (Zd : Value).ownBlock) lL (fun k_ hk_ => ⟨hk_.2.1, hk_.2.2⟩)) (aG eG)); have gZ := am (Kd.d9 (Kd.aM (ok' := fun k_ => some k_ ≠ (Aa : Value).ownBlock) Lq (fun _ hk_ => hk_.2)) (aG eG)); replace HB := bS eG hb; clear hb f3 lL Lq) | ((with_reducible refine gD 5 ?_); (try (refine mD (by rfl) ?_; dsimp only)); refine bX 5 #[.slice none 0 0, .slice none 0 0] 31 ?_; intro oE hg w11 hbox hb; replace kZ := RB OX hb; replace eP := am (Kd.dQ (Kd.iO (rN eP.1) oE (Nat.le_of_eq hg.symm)) hb); replace gZ := am (Kd.fP (rR gZ.1) hb); have kH := am hbox; have xf := am (oS : w.heap.size ≤ oE); have Al := xf; replace HB := bS eG hb; clear hb hbox hg; obtain ⟨j5, iX, Rm⟩ := Kd.bP kZ.1; subst Rm; have La := cz2 kH; obtain ⟨xD, vI, nz⟩ := Kd.gM eP.1; subst nz; obtain ⟨FI, DZ, aEJ⟩ := Kd.bP gZ.1; subst aEJ) | ((with_reducible refine lG (f := 50) rfl ?_); refine wO (some 41) rfl rfl Try.func50 (by kernel_rfl) rfl #[.agg #[.slice j5 l5.length iX, .slice xD dC.length vI], .string dZ, .slice FI lJ.length DZ] rfl xV ?_; (with_reducible refine (qL.calls kj2 _ _ l5 _ _ dC dZ _ _ lJ iI m0 qZ _ ?side1 ?side2 ?side3 ?side4 ?side5 ?side6 A7.out).mono ?_); (case side1 => refine (Kd.aU (e := 9) (base := w.heap.size) (ok := fun k_ => some k_ ≠ (.slice FI lJ.length DZ : Value).ownBlock) (n := l5.length) (c := iX) ?_).2.2; exact (by refine rR ?_; exact (Kd.aM (fR (fR (tR kZ kH))) (fun _ h_ => h_.1)))); (case side2 => exact (Kd.aU kZ.1).2.1); (case side3 => refine (Kd.bL (e := 56) (base := w.heap.size) (ok := fun k_ => ((some k_ ≠ (.slice j5 l5.length iX : Value).ownBlock ∧ some k_ ≠ (.slice FI lJ.length DZ : Value).ownBlock) ∧ k_ ≠ oE)) (n := dC.length) (c := vI) ?_).2.2; exact (by refine rN ?_; exact (Kd.aJ (fN (fN (Kd.aJ eP.1 (fun k_ hk => (⟨hk, hk.2⟩ : _ ∧ k_ ≠ oE))))) (fun _ h_ => h_.1)))); (case side4 => exact (Kd.bL eP.1).2.1); (case side5 => refine (Kd.aU (e := 9) (base := w.heap.size) (ok := fun k_ => some k_ ≠ (.slice j5 l5.length iX : Value).ownBlock) (n := lJ.length) (c := DZ) ?_).2.2; exact (by refine rR ?_; exact (Kd.aM (fR (fR (tR gZ kH))) (fun _ h_ => h_.1)))); (case side6 => exact (Kd.aU gZ.1).2.1); rintro e w16 ⟨IA, V7, rfl, f3, lL, hb⟩; refine ⟨_, rfl, ?_⟩; have iM := am (Kd.d9 (Kd.fA (Kd.fA f3 (Kd.R_lt (by refine rR ?_; exact (Kd.aM (fR (fR (tR kZ kH))) (fun _ h_ => h_.1))))) (Kd.R_lt (by refine rR ?_; exact (Kd.aM (fR (fR (tR gZ kH))) (fun _ h_ => h_.1))))) (aG LR)); have iN := am (Kd.jD (Kd.aJ (ok' := fun k_ => some k_ ≠ (IA : Value).ownBlock ∧ some k_ ≠ (.slice j5 l5.length iX : Value).ownBlock ∧ some k_ ≠ (.slice xD dC.length vI : Value).ownBlock ∧ some k_ ≠ (.slice FI lJ.length DZ : Value).ownBlock ∧ k_ ≠ oE) (Kd.S_N (Kd.nP lL)) (fun k_ hk_ => ⟨hk_.1, (Kd.fresh' (Kd.R_lt (by refine rR ?_; exact (Kd.aM (fR (fR (tR kZ kH))) (fun _ h_ => h_.1)))) k_ hk_.2.1), (Kd.fresh' (Kd.N_lt (by refine rN ?_; exact (Kd.aJ (fN (fN (Kd.aJ eP.1 (fun k_ hk => (⟨hk, hk.2⟩ : _ ∧ k_ ≠ oE))))) (fun _ h_ => h_.1)))) k_ hk_.2.1), (Kd.fresh' (Kd.R_lt (by refine rR ?_; exact (Kd.aM (fR (fR (tR gZ kH))) (fun _ h_ => h_.1)))) k_ hk_.2.1), (Kd.uA (g := oE) (o := .cells #[.slice j5 l5.length iX, .slice xD dC.length vI] 31 (0, 0)) (qP kH) k_ hk_.2.1)⟩)) (aG LR)); replace kZ := am (Kd.dS (by refine rR ?_; exact (Kd.aM (fR (fR (tR kZ kH))) (fun _ h_ => h_.1))) (Kd.bZ f3) hb); replace eP := am (Kd.aJ (Kd.iP (Kd.iP (Kd.xR (by refine rN ?_; exact (Kd.aJ (fN (fN (Kd.aJ eP.1 (fun k_ hk => (⟨hk, hk.2⟩ : _ ∧ k_ ≠ oE))))) (fun _ h_ => h_.1))) hb) (Kd.bZ f3)) uG) (fun _ h_ => h_.1)); replace gZ := am (Kd.dS (by refine rR ?_; exact (Kd.aM (fR (fR (tR gZ kH))) (fun _ h_ => h_.1))) (Kd.bZ f3) hb); replace kH := am (bH (g := oE) (o := .cells #[.slice j5 l5.length iX, .slice xD dC.length vI] 31 (0, 0)) (qP kH) hb); replace HB := bS LR hb; clear hb f3 lL) | ((with_reducible refine gD 8 ?_); (try (refine mD (by rfl) ?_; dsimp only)); refine bX 8 #[.slice none 0 0, .slice none 0 0] 31 ?_; intro rW hg w17 hbox hb; replace kZ := RB OX hb; replace eP := am (Kd.dQ (Kd.iO (rN eP.1) rW (Nat.le_of_eq hg.symm)) hb); replace gZ := am (Kd.fP (rR gZ.1) hb); replace iM := RB LX hb; replace iN := am (Kd.dQ (Kd.iO (rN iN.1) rW (Nat.le_of_eq hg.symm)) hb); have mH := am hbox; have Ob := am (by rw [hg]; exact (aG LR) : w.heap.size ≤ rW); have An := Ob; replace HB := bS LR hb; have zB := nL wT hg; have FQ := nG wT hg; replace kH := bB wT hb; clear hb hbox hg; obtain ⟨FJ, CV, Xd⟩ := Kd.bP iM.1; subst Xd; have uo := nZ1 FQ zB; have Z20 := cz2 mH; obtain ⟨M6, IQ, Ln⟩ := Kd.gM iN.1; subst Ln; have zl := cz2 kH) | ((with_reducible refine lG (f := 49) rfl ?_); refine wO (some 48) rfl rfl Try.func49 (by kernel_rfl) rfl #[.agg #[.slice j5 l5.length iX, .slice xD dC.length vI], .string dZ, .slice FI lJ.length DZ] rfl xV ?_; (with_reducible refine (eD.calls kj2 _ _ l5 _ _ dC dZ _ _ lJ eH qE AP _ ?side1 ?side2 ?side3 ?side4 ?side5 ?side6 A8.out).mono ?_); (case side1 => refine (Kd.aU (e := 9) (base := w.heap.size) (ok := fun k_ => (some k_ ≠ (.slice FI lJ.length DZ : Value).ownBlock ∧ some k_ ≠ (.slice FJ iI.length CV : Value).ownBlock)) (n := l5.length) (c := iX) ?_).2.2; exact (by refine rR ?_; exact (Kd.aM (fR (fR (tR kZ mH))) (fun _ h_ => h_.1)))); (case side2 => exact (Kd.aU kZ.1).2.1); (case side3 => refine (Kd.bL (e := 56) (base := w.heap.size) (ok := fun k_ => (((((some k_ ≠ (.slice j5 l5.length iX : Value).ownBlock ∧ some k_ ≠ (.slice FI lJ.length DZ : Value).ownBlock) ∧ k_ ≠ oE) ∧ some k_ ≠ (.slice FJ iI.length CV : Value).ownBlock) ∧ some k_ ≠ (.slice M6 m0.length IQ : Value).ownBlock) ∧ k_ ≠ rW)) (n := dC.length) (c := vI) ?_).2.2; exact (by refine rN ?_; exact (Kd.aJ (fN (fN (Kd.aJ eP.1 (fun k_ hk => (⟨hk, hk.2⟩ : _ ∧ k_ ≠ rW))))) (fun _ h_ => h_.1)))); (case side4 => exact (Kd.bL eP.1).2.1); (case side5 => refine (Kd.aU (e := 9) (base := w.heap.size) (ok := fun k_ => (some k_ ≠ (.slice j5 l5.length iX : Value).ownBlock ∧ some k_ ≠ (.slice FJ iI.length CV : Value).ownBlock)) (n := lJ.length) (c := DZ) ?_).2.2; exact (by refine rR ?_; exact (Kd.aM (fR (fR (tR gZ mH))) (fun _ h_ => h_.1)))); (case side6 => exact (Kd.aU gZ.1).2.1); rintro e VA ⟨PB, Da, rfl, f3, lL, hb⟩; refine ⟨_, rfl, ?_⟩; have kI := am (Kd.d9 (Kd.fA (Kd.fA (Kd.fA (Kd.aM (ok' := fun k_ => True) f3 (fun _ hk_ => trivial)) (Kd.R_lt (by refine rR ?_; exact (Kd.aM (fR (fR (tR kZ mH))) (fun _ h_ => h_.1))))) (Kd.R_lt (by refine rR ?_; exact (Kd.aM (fR (fR (tR gZ mH))) (fun _ h_ => h_.1))))) (Kd.R_lt (by refine rR ?_; exact (Kd.aM (fR (fR (tR iM mH))) (fun _ h_ => h_.1))))) (aG Tf)); have l4 := am (Kd.jD (Kd.aJ (ok' := fun k_ => some k_ ≠ (PB : Value).ownBlock ∧ some k_ ≠ (.slice j5 l5.length iX : Value).ownBlock ∧ some k_ ≠ (.slice xD dC.length vI : Value).ownBlock ∧ some k_ ≠ (.slice FI lJ.length DZ : Value).ownBlock ∧ some k_ ≠ (.slice FJ iI.length CV : Value).ownBlock ∧ some k_ ≠ (.slice M6 m0.length IQ : Value).ownBlock ∧ k_ ≠ oE ∧ k_ ≠ rW) lL (fun k_ hk_ => ⟨hk_.2, (Kd.fresh' (Kd.R_lt (by refine rR ?_; exact (Kd.aM (fR (fR (tR kZ mH))) (fun _ h_ => h_.1)))) k_ hk_.1), (Kd.fresh' (Kd.N_lt (by refine rN ?_; exact (Kd.aJ (fN (fN (Kd.aJ eP.1 (fun k_ hk => (⟨hk, hk.2⟩ : _ ∧ k_ ≠ rW))))) (fun _ h_ => h_.1)))) k_ hk_.1), (Kd.fresh' (Kd.R_lt (by refine rR ?_; exact (Kd.aM (fR (fR (tR gZ mH))) (fun _ h_ => h_.1)))) k_ hk_.1), (Kd.fresh' (Kd.R_lt (by refine rR ?_; exact (Kd.aM (fR (fR (tR iM mH))) (fun _ h_ => h_.1)))) k_ hk_.1), (Kd.fresh' (Kd.N_lt (by refine rN ?_; exact (Kd.aJ (fN (fN (Kd.aJ iN.1 (fun k_ hk => (⟨hk, hk.2⟩ : _ ∧ k_ ≠ rW))))) (fun _ h_ => h_.1)))) k_ hk_.1), (Kd.uA (g := oE) (o := .cells #[.slice j5 l5.length iX, .slice xD dC.length vI] 31 (0, 0)) (qF kH zB) k_ hk_.1), (Kd.uA (g := rW) (o := .cells #[.slice FJ iI.length CV, .slice M6 m0.length IQ] 31 (0, 0)) (qP mH) k_ hk_.1)⟩)) (aG Tf)); replace kZ := am (Kd.dS (by refine rR ?_; exact (Kd.aM (fR (fR (tR kZ mH))) (fun _ h_ => h_.1))) (Kd.bZ f3) hb); replace eP := am (Kd.aJ (Kd.iP (Kd.iP (Kd.xR (by refine rN ?_; exact (Kd.aJ (fN (fN (Kd.aJ eP.1 (fun k_ hk => (⟨hk, hk.2⟩ : _ ∧ k_ ≠ rW))))) (fun _ h_ => h_.1))) hb) (Kd.bZ f3)) uG) (fun _ h_ => h_.1)); replace gZ := am (Kd.dS (by refine rR ?_; exact (Kd.aM (fR (fR (tR gZ mH))) (fun _ h_ => h_.1))) (Kd.bZ f3) hb); replace iM := am (Kd.dS (by refine rR ?_; exact (Kd.aM (fR (fR (tR iM mH))) (fun _ h_ => h_.1))) (Kd.bZ f3) hb); replace iN := am (Kd.aJ (Kd.iP (Kd.iP (Kd.xR (by refine rN ?_; exact (Kd.aJ (fN (fN (Kd.aJ iN.1 (fun k_ hk => (⟨hk, hk.2⟩ : _ ∧ k_ ≠ rW))))) (fun _ h_ => h_.1))) hb) (Kd.bZ f3)) uG) (fun _ h_ => h_.1)); replace kH := am (bH (g := oE) (o := .cells #[.slice j5 l5.length iX, .slice xD dC.length vI] 31 (0, 0)) (qF kH zB) hb); replace mH := am (bH (g := rW) (o := .cells #[.slice FJ iI.length CV, .slice M6 m0.length IQ] 31 (0, 0)) (qP mH) hb); replace HB := bS Tf hb; clear hb f3 lL) | ((with_reducible refine gD 10 ?_); (try (refine mD (by rfl) ?_; dsimp only)); refine bX 10 #[.slice none 0 0, .slice none 0 0] 31 ?_; intro pY hg w24 hbox hb; replace kZ := RB OX hb; replace eP := am (Kd.dQ (Kd.iO (rN eP.1) pY (Nat.le_of_eq hg.symm)) hb); replace gZ := am (Kd.fP (rR gZ.1) hb); replace iM := RB LX hb; replace iN := am (Kd.dQ (Kd.iO (rN iN.1) pY (Nat.le_of_eq hg.symm)) hb); replace kI := RB RF hb; replace l4 := am (Kd.dQ (Kd.iO (rN l4.1) pY (Nat.le_of_eq hg.symm)) hb); have nW := am hbox; have xi := am (by rw [hg]; exact (aG Tf) : w.heap.size ≤ pY); have xb := xi; replace HB := bS Tf hb; have zC := nL wT hg; have FR := nG wT hg; replace kH := bB wT hb; have zD := nL U6 hg; have FS := nG U6 hg; replace mH := bB U6 hb; clear hb hbox hg; obtain ⟨FL, CW, Lo⟩ := Kd.bP kI.1; subst Lo; have Z26 := nZ2 FR zC FS zD; have Z28 := cz2 nW; obtain ⟨M8, IR, Fa⟩ := Kd.gM l4.1; subst Fa))
   (try simp only [Act.put, List.setIfInBounds_toArray, List.set_cons_zero, List.set_cons_succ])
   go_cut [82] (fun v82 wc => ∃ (kq : Nat) (Uk : Bool), v82 = .bool Uk ∧ aC (dB.j1 kq l1 dZ Uk l5 dC = some r) ∧ aC (kq ≤ kj2) ∧ aC (Kd.R Kd.string 9 wc w.heap.size (fun _ => True) (.slice j5 l5.length iX) l5) ∧ aC (Kd.N k56 56 wc w.heap.size (fun k_ => some k_ ≠ ((.slice j5 l5.length iX) : Value).ownBlock ∧ k_ ≠ oE) (.slice xD dC.length vI) dC) ∧ aC (wc.heap[oE]? = some (.cells #[(.slice j5 l5.length iX), (.slice xD dC.length vI)] 31 (0, 0))) ∧ aC (Below w.heap.size w wc))
   case first => as_aux_lemma =>
    have H := HC9.1
    clear HC9
    by_cases Na : qZ = AP
    rw [if_pos Na] at H
    have NO : (qZ == AP) = true := beq_iff_eq.mpr Na
    have a0G : (qZ != AP) = false := bne_eq_false_iff_eq.mpr Na
    clear Na
    (first | rw [NO] | (simp only [q8, uS]; rw [NO]) | skip)
    obtain ⟨ZX, wh, H⟩ := bd H
    refine tC H ?_ ?_ <;> clear H <;> intro c32 H <;> subst c32
    refine iq H ?_ ?_ <;> clear H <;> intro c33 a0I a0J H
    obtain ⟨aGN, Mx, H⟩ := bd H
    refine tC H ?_ ?_ <;> clear H <;> intro c35 H <;> subst c35
    obtain ⟨RX, A36, H⟩ := bd H
    refine tC H ?_ ?_ <;> clear H <;> intro c37 H <;> subst c37
    by_cases c38 : qZ > 1
    rw [if_pos c38] at H
    exact absurd H (by simp)
    rw [if_neg c38] at H
    have a0L : decide (1 < qZ) = false := decide_eq_false c38
    clear c38
    have H' := am H
    repeat clear H
    have Z39 := nZ2 FQ zB zD FS
    have Z41 := cz2 mH
    have Z42 := nZ1 FR zC
    have zn := cz2 nW
    have Ow := trivial
    have Ib := trivial
    rotate_left
    exact absurd H (by simp)
    by_cases WG : qZ > 1
    rw [if_pos WG] at H
    exact absurd H (by simp)
    rw [if_neg WG] at H
    have WH : decide (1 < qZ) = false := decide_eq_false WG
    clear WG
    have H' := am H
    repeat clear H
    have Z50 := nZ2 FQ zB zD FS
    have Z52 := cz2 mH
    have Z53 := nZ1 FR zC
    have Z54 := cz2 nW
    have Ow := trivial
    have aq := trivial
    rotate_left
    by_cases Ww : qZ > 1
    rw [if_pos Ww] at H
    have Qv : decide (1 < qZ) = true := decide_eq_true Ww
    clear Ww
    obtain ⟨QD, A59, H⟩ := bd H
    have H' := am H
    repeat clear H
    have Z60 := nZ2 FQ zB zD FS
    have Z62 := cz2 mH
    have Z63 := nZ1 FR zC
    have Z64 := cz2 nW
    have Ic := trivial
    rotate_left
    rw [if_neg Ww] at H
    have Qv : decide (1 < qZ) = false := decide_eq_false Ww
    clear Ww
    have H' := am H
    repeat clear H
    have Z69 := nZ2 FQ zB zD FS
    have Z71 := cz2 mH
    have Z72 := nZ1 FR zC
    have Z73 := cz2 nW
    have ar := trivial
    rotate_left
    exact absurd H (by simp)
    rw [if_neg Na] at H
    exact absurd H (by simp)
    all_goals
     go_wp2_with (first | (go_at_call 64; revert Ow; intro Ow; (with_reducible refine (dK.calls kj2 _ _ iI _ _ m0 _ _ eH _ _ qE true _ ?side1 ?side2 ?side3 ?side4 ?side5 ?side6 ?side7 ?side8 wh.out).mono ?_); (case side1 => refine (Kd.aU (e := 9) (base := w.heap.size) (ok := fun k_ => ((some k_ ≠ (.slice j5 l5.length iX : Value).ownBlock ∧ some k_ ≠ (.slice FI lJ.length DZ : Value).ownBlock) ∧ some k_ ≠ (.slice FL eH.length CW : Value).ownBlock)) (n := iI.length) (c := CV) ?_).2.2; exact (by refine rR ?_; exact Kd.aM (fR (fR (tR iM nW))) (fun _ hk => ⟨⟨hk.1.1.1.2, hk.1.1.2⟩, hk.1.2⟩))); (case side2 => exact (Kd.aU iM.1).2.1); (case side3 => refine (Kd.bL (e := 56) (base := w.heap.size) (ok := fun k_ => (((((some k_ ≠ (.slice FJ iI.length CV : Value).ownBlock ∧ (some k_ ≠ (.slice j5 l5.length iX : Value).ownBlock ∧ (some k_ ≠ (.slice xD dC.length vI : Value).ownBlock ∧ (some k_ ≠ (.slice FI lJ.length DZ : Value).ownBlock ∧ k_ ≠ oE)))) ∧ k_ ≠ rW) ∧ some k_ ≠ (.slice FL eH.length CW : Value).ownBlock) ∧ some k_ ≠ (.slice M8 qE.length IR : Value).ownBlock) ∧ k_ ≠ pY)) (n := m0.length) (c := IQ) ?_).2.2; exact (by refine rN ?_; exact (Kd.aJ (fN (fN (Kd.aJ iN.1 (fun k_ hk => (⟨hk, hk.2⟩ : _ ∧ k_ ≠ pY))))) (fun _ h_ => h_.1)))); (case side4 => exact (Kd.bL iN.1).2.1); (case side5 => refine (Kd.aU (e := 9) (base := w.heap.size) (ok := fun k_ => ((some k_ ≠ (.slice j5 l5.length iX : Value).ownBlock ∧ some k_ ≠ (.slice FI lJ.length DZ : Value).ownBlock) ∧ some k_ ≠ (.slice FJ iI.length CV : Value).ownBlock)) (n := eH.length) (c := CW) ?_).2.2; exact (by refine rR ?_; exact Kd.aM (fR (fR (tR kI nW))) (fun _ hk => ⟨⟨hk.1.1.1.2, hk.1.1.2⟩, hk.1.2⟩))); (case side6 => exact (Kd.aU kI.1).2.1); (case side7 => refine (Kd.bL (e := 56) (base := w.heap.size) (ok := fun k_ => ((some k_ ≠ (.slice FL eH.length CW : Value).ownBlock ∧ (some k_ ≠ (.slice j5 l5.length iX : Value).ownBlock ∧ (some k_ ≠ (.slice xD dC.length vI : Value).ownBlock ∧ (some k_ ≠ (.slice FI lJ.length DZ : Value).ownBlock ∧ (some k_ ≠ (.slice FJ iI.length CV : Value).ownBlock ∧ (some k_ ≠ (.slice M6 m0.length IQ : Value).ownBlock ∧ (k_ ≠ oE ∧ k_ ≠ rW))))))) ∧ k_ ≠ pY)) (n := qE.length) (c := IR) ?_).2.2; exact (by refine rN ?_; exact (Kd.aJ (fN (fN (Kd.aJ l4.1 (fun k_ hk => (⟨hk, hk.2⟩ : _ ∧ k_ ≠ pY))))) (fun _ h_ => h_.1)))); (case side8 => exact (Kd.bL l4.1).2.1); rintro e aR2 ⟨rfl, hb⟩; replace kZ := am (Kd.fP (by refine rR ?_; exact (Kd.aM (fR (fR (tR kZ nW))) (fun _ h_ => h_.1))) hb); replace eP := am (Kd.dQ (by refine rN ?_; exact (Kd.aJ (fN (fN (Kd.aJ eP.1 (fun k_ hk => (⟨hk, hk.2⟩ : _ ∧ k_ ≠ pY))))) (fun _ h_ => h_.1))) hb); replace gZ := am (Kd.fP (by refine rR ?_; exact (Kd.aM (fR (fR (tR gZ nW))) (fun _ h_ => h_.1))) hb); replace iM := am (Kd.fP (by refine rR ?_; exact (Kd.aM (fR (fR (tR iM nW))) (fun _ h_ => h_.1))) hb); replace iN := am (Kd.dQ (by refine rN ?_; exact (Kd.aJ (fN (fN (Kd.aJ iN.1 (fun k_ hk => (⟨hk, hk.2⟩ : _ ∧ k_ ≠ pY))))) (fun _ h_ => h_.1))) hb); replace kI := am (Kd.fP (by refine rR ?_; exact (Kd.aM (fR (fR (tR kI nW))) (fun _ h_ => h_.1))) hb); replace l4 := am (Kd.dQ (by refine rN ?_; exact (Kd.aJ (fN (fN (Kd.aJ l4.1 (fun k_ hk => (⟨hk, hk.2⟩ : _ ∧ k_ ≠ pY))))) (fun _ h_ => h_.1))) hb); replace kH := am (bH (g := oE) (o := .cells #[.slice j5 l5.length iX, .slice xD dC.length vI] 31 (0, 0)) sd hb); replace mH := am (bH (g := rW) (o := .cells #[.slice FJ iI.length CV, .slice M6 m0.length IQ] 31 (0, 0)) se hb); replace nW := am (bH (g := pY) (o := .cells #[.slice FL eH.length CW, .slice M8 qE.length IR] 31 (0, 0)) (qP nW) hb); replace HB := bS UB hb; clear hb; have aKR := cz2 kH) | (go_at_call 36; revert Ib; intro Ib; revert Mx; intro Mx; refine cM (gF.calls kj2 _ _ l5 _ _ dC true _ (pC (Kd.aU kZ.1).2.2) ((Kd.aU kZ.1).2.1) (pC (Kd.bL eP.1).2.2) ((Kd.bL eP.1).2.1) Mx.out) ?_; rintro aR3 hb; replace kZ := RB OX hb; replace eP := am (Kd.dQ (rN eP.1) hb); replace gZ := am (Kd.fP (rR gZ.1) hb); replace iM := RB LX hb; replace iN := am (Kd.dQ (rN iN.1) hb); replace kI := RB RF hb; replace l4 := am (Kd.dQ (rN l4.1) hb); replace kH := bB wT hb; replace mH := bB U6 hb; replace nW := am (bH (g := pY) (o := .cells #[.slice FL eH.length CW, .slice M8 qE.length IR] 31 (0, 0)) (rB nW.1) hb); replace HB := bS UB hb; clear hb; have aKS := cz2 mH; clear Mx) | (go_at_call 36; revert Ib; intro Ib; revert A36; intro A36; refine cM (gF.calls kj2 _ _ iI _ _ m0 true _ (pC (Kd.aU iM.1).2.2) ((Kd.aU iM.1).2.1) (pC (Kd.bL iN.1).2.2) ((Kd.bL iN.1).2.1) A36.out) ?_; rintro aR4 hb; replace kZ := RB OX hb; replace eP := am (Kd.dQ (rN eP.1) hb); replace gZ := am (Kd.fP (rR gZ.1) hb); replace iM := RB LX hb; replace iN := am (Kd.dQ (rN iN.1) hb); replace kI := RB RF hb; replace l4 := am (Kd.dQ (rN l4.1) hb); replace kH := bB wT hb; replace mH := bB U6 hb; replace nW := am (bH (g := pY) (o := .cells #[.slice FL eH.length CW, .slice M8 qE.length IR] 31 (0, 0)) (rB nW.1) hb); replace HB := bS UB hb; clear hb; clear A36) | (go_at_call 36; revert aq; intro aq; revert Mx; intro Mx; refine cM (gF.calls kj2 _ _ l5 _ _ dC false _ (pC (Kd.aU kZ.1).2.2) ((Kd.aU kZ.1).2.1) (pC (Kd.bL eP.1).2.2) ((Kd.bL eP.1).2.1) Mx.out) ?_; rintro aR5 hb; replace kZ := RB OX hb; replace eP := am (Kd.dQ (rN eP.1) hb); replace gZ := am (Kd.fP (rR gZ.1) hb); replace iM := RB LX hb; replace iN := am (Kd.dQ (rN iN.1) hb); replace kI := RB RF hb; replace l4 := am (Kd.dQ (rN l4.1) hb); replace kH := bB wT hb; replace mH := bB U6 hb; replace nW := am (bH (g := pY) (o := .cells #[.slice FL eH.length CW, .slice M8 qE.length IR] 31 (0, 0)) (rB nW.1) hb); replace HB := bS UB hb; clear hb; clear Mx) | (go_at_call 64; revert Ic; intro Ic; (with_reducible refine (dK.calls kj2 _ _ iI _ _ m0 _ _ eH _ _ qE true _ ?side1 ?side2 ?side3 ?side4 ?side5 ?side6 ?side7 ?side8 wh.out).mono ?_); (case side1 => refine (Kd.aU (e := 9) (base := w.heap.size) (ok := fun k_ => ((some k_ ≠ (.slice j5 l5.length iX : Value).ownBlock ∧ some k_ ≠ (.slice FI lJ.length DZ : Value).ownBlock) ∧ some k_ ≠ (.slice FL eH.length CW : Value).ownBlock)) (n := iI.length) (c := CV) ?_).2.2; exact (by refine rR ?_; exact Kd.aM (fR (fR (tR iM nW))) (fun _ hk => ⟨⟨hk.1.1.1.2, hk.1.1.2⟩, hk.1.2⟩))); (case side2 => exact (Kd.aU iM.1).2.1); (case side3 => refine (Kd.bL (e := 56) (base := w.heap.size) (ok := fun k_ => (((((some k_ ≠ (.slice FJ iI.length CV : Value).ownBlock ∧ (some k_ ≠ (.slice j5 l5.length iX : Value).ownBlock ∧ (some k_ ≠ (.slice xD dC.length vI : Value).ownBlock ∧ (some k_ ≠ (.slice FI lJ.length DZ : Value).ownBlock ∧ k_ ≠ oE)))) ∧ k_ ≠ rW) ∧ some k_ ≠ (.slice FL eH.length CW : Value).ownBlock) ∧ some k_ ≠ (.slice M8 qE.length IR : Value).ownBlock) ∧ k_ ≠ pY)) (n := m0.length) (c := IQ) ?_).2.2; exact (by refine rN ?_; exact (Kd.aJ (fN (fN (Kd.aJ iN.1 (fun k_ hk => (⟨hk, hk.2⟩ : _ ∧ k_ ≠ pY))))) (fun _ h_ => h_.1)))); (case side4 => exact (Kd.bL iN.1).2.1); (case side5 => refine (Kd.aU (e := 9) (base := w.heap.size) (ok := fun k_ => ((some k_ ≠ (.slice j5 l5.length iX : Value).ownBlock ∧ some k_ ≠ (.slice FI lJ.length DZ : Value).ownBlock) ∧ some k_ ≠ (.slice FJ iI.length CV : Value).ownBlock)) (n := eH.length) (c := CW) ?_).2.2; exact (by refine rR ?_; exact Kd.aM (fR (fR (tR kI nW))) (fun _ hk => ⟨⟨hk.1.1.1.2, hk.1.1.2⟩, hk.1.2⟩))); (case side6 => exact (Kd.aU kI.1).2.1); (case side7 => refine (Kd.bL (e := 56) (base := w.heap.size) (ok := fun k_ => ((some k_ ≠ (.slice FL eH.length CW : Value).ownBlock ∧ (some k_ ≠ (.slice j5 l5.length iX : Value).ownBlock ∧ (some k_ ≠ (.slice xD dC.length vI : Value).ownBlock ∧ (some k_ ≠ (.slice FI lJ.length DZ : Value).ownBlock ∧ (some k_ ≠ (.slice FJ iI.length CV : Value).ownBlock ∧ (some k_ ≠ (.slice M6 m0.length IQ : Value).ownBlock ∧ (k_ ≠ oE ∧ k_ ≠ rW))))))) ∧ k_ ≠ pY)) (n := qE.length) (c := IR) ?_).2.2; exact (by refine rN ?_; exact (Kd.aJ (fN (fN (Kd.aJ l4.1 (fun k_ hk => (⟨hk, hk.2⟩ : _ ∧ k_ ≠ pY))))) (fun _ h_ => h_.1)))); (case side8 => exact (Kd.bL l4.1).2.1); rintro e aR6 ⟨rfl, hb⟩; replace kZ := am (Kd.fP (by refine rR ?_; exact (Kd.aM (fR (fR (tR kZ nW))) (fun _ h_ => h_.1))) hb); replace eP := am (Kd.dQ (by refine rN ?_; exact (Kd.aJ (fN (fN (Kd.aJ eP.1 (fun k_ hk => (⟨hk, hk.2⟩ : _ ∧ k_ ≠ pY))))) (fun _ h_ => h_.1))) hb); replace gZ := am (Kd.fP (by refine rR ?_; exact (Kd.aM (fR (fR (tR gZ nW))) (fun _ h_ => h_.1))) hb); replace iM := am (Kd.fP (by refine rR ?_; exact (Kd.aM (fR (fR (tR iM nW))) (fun _ h_ => h_.1))) hb); replace iN := am (Kd.dQ (by refine rN ?_; exact (Kd.aJ (fN (fN (Kd.aJ iN.1 (fun k_ hk => (⟨hk, hk.2⟩ : _ ∧ k_ ≠ pY))))) (fun _ h_ => h_.1))) hb); replace kI := am (Kd.fP (by refine rR ?_; exact (Kd.aM (fR (fR (tR kI nW))) (fun _ h_ => h_.1))) hb); replace l4 := am (Kd.dQ (by refine rN ?_; exact (Kd.aJ (fN (fN (Kd.aJ l4.1 (fun k_ hk => (⟨hk, hk.2⟩ : _ ∧ k_ ≠ pY))))) (fun _ h_ => h_.1))) hb); replace kH := am (bH (g := oE) (o := .cells #[.slice j5 l5.length iX, .slice xD dC.length vI] 31 (0, 0)) sd hb); replace mH := am (bH (g := rW) (o := .cells #[.slice FJ iI.length CV, .slice M6 m0.length IQ] 31 (0, 0)) se hb); replace nW := am (bH (g := pY) (o := .cells #[.slice FL eH.length CW, .slice M8 qE.length IR] 31 (0, 0)) (qP nW) hb); replace HB := bS UB hb; clear hb; have aKT := cz2 mH; have aKU := cz2 kH) | (go_at_call 64; revert Ic; intro Ic; refine cM (dK.calls kj2 _ _ iI _ _ m0 _ _ l5 _ _ dC QD _ (pC (Kd.aU iM.1).2.2) ((Kd.aU iM.1).2.1) (pC (Kd.bL iN.1).2.2) ((Kd.bL iN.1).2.1) (pC (Kd.aU kZ.1).2.2) ((Kd.aU kZ.1).2.1) (pC (Kd.bL eP.1).2.2) ((Kd.bL eP.1).2.1) A59.out) ?_; rintro aR7 hb; replace kZ := RB OX hb; replace eP := am (Kd.dQ (rN eP.1) hb); replace gZ := am (Kd.fP (rR gZ.1) hb); replace iM := RB LX hb; replace iN := am (Kd.dQ (rN iN.1) hb); replace kI := RB RF hb; replace l4 := am (Kd.dQ (rN l4.1) hb); replace kH := bB wT hb; replace mH := bB U6 hb; replace nW := am (bH (g := pY) (o := .cells #[.slice FL eH.length CW, .slice M8 qE.length IR] 31 (0, 0)) (rB nW.1) hb); replace HB := bS UB hb; clear hb) | (go_at_call 64; revert ar; intro ar; (with_reducible refine (dK.calls kj2 _ _ iI _ _ m0 _ _ eH _ _ qE true _ ?side1 ?side2 ?side3 ?side4 ?side5 ?side6 ?side7 ?side8 wh.out).mono ?_); (case side1 => refine (Kd.aU (e := 9) (base := w.heap.size) (ok := fun k_ => ((some k_ ≠ (.slice j5 l5.length iX : Value).ownBlock ∧ some k_ ≠ (.slice FI lJ.length DZ : Value).ownBlock) ∧ some k_ ≠ (.slice FL eH.length CW : Value).ownBlock)) (n := iI.length) (c := CV) ?_).2.2; exact (by refine rR ?_; exact Kd.aM (fR (fR (tR iM nW))) (fun _ hk => ⟨⟨hk.1.1.1.2, hk.1.1.2⟩, hk.1.2⟩))); (case side2 => exact (Kd.aU iM.1).2.1); (case side3 => refine (Kd.bL (e := 56) (base := w.heap.size) (ok := fun k_ => (((((some k_ ≠ (.slice FJ iI.length CV : Value).ownBlock ∧ (some k_ ≠ (.slice j5 l5.length iX : Value).ownBlock ∧ (some k_ ≠ (.slice xD dC.length vI : Value).ownBlock ∧ (some k_ ≠ (.slice FI lJ.length DZ : Value).ownBlock ∧ k_ ≠ oE)))) ∧ k_ ≠ rW) ∧ some k_ ≠ (.slice FL eH.length CW : Value).ownBlock) ∧ some k_ ≠ (.slice M8 qE.length IR : Value).ownBlock) ∧ k_ ≠ pY)) (n := m0.length) (c := IQ) ?_).2.2; exact (by refine rN ?_; exact (Kd.aJ (fN (fN (Kd.aJ iN.1 (fun k_ hk => (⟨hk, hk.2⟩ : _ ∧ k_ ≠ pY))))) (fun _ h_ => h_.1)))); (case side4 => exact (Kd.bL iN.1).2.1); (case side5 => refine (Kd.aU (e := 9) (base := w.heap.size) (ok := fun k_ => ((some k_ ≠ (.slice j5 l5.length iX : Value).ownBlock ∧ some k_ ≠ (.slice FI lJ.length DZ : Value).ownBlock) ∧ some k_ ≠ (.slice FJ iI.length CV : Value).ownBlock)) (n := eH.length) (c := CW) ?_).2.2; exact (by refine rR ?_; exact Kd.aM (fR (fR (tR kI nW))) (fun _ hk => ⟨⟨hk.1.1.1.2, hk.1.1.2⟩, hk.1.2⟩))); (case side6 => exact (Kd.aU kI.1).2.1); (case side7 => refine (Kd.bL (e := 56) (base := w.heap.size) (ok := fun k_ => ((some k_ ≠ (.slice FL eH.length CW : Value).ownBlock ∧ (some k_ ≠ (.slice j5 l5.length iX : Value).ownBlock ∧ (some k_ ≠ (.slice xD dC.length vI : Value).ownBlock ∧ (some k_ ≠ (.slice FI lJ.length DZ : Value).ownBlock ∧ (some k_ ≠ (.slice FJ iI.length CV : Value).ownBlock ∧ (some k_ ≠ (.slice M6 m0.length IQ : Value).ownBlock ∧ (k_ ≠ oE ∧ k_ ≠ rW))))))) ∧ k_ ≠ pY)) (n := qE.length) (c := IR) ?_).2.2; exact (by refine rN ?_; exact (Kd.aJ (fN (fN (Kd.aJ l4.1 (fun k_ hk => (⟨hk, hk.2⟩ : _ ∧ k_ ≠ pY))))) (fun _ h_ => h_.1)))); (case side8 => exact (Kd.bL l4.1).2.1); rintro e aR8 ⟨rfl, hb⟩; replace kZ := am (Kd.fP (by refine rR ?_; exact (Kd.aM (fR (fR (tR kZ nW))) (fun _ h_ => h_.1))) hb); replace eP := am (Kd.dQ (by refine rN ?_; exact (Kd.aJ (fN (fN (Kd.aJ eP.1 (fun k_ hk => (⟨hk, hk.2⟩ : _ ∧ k_ ≠ pY))))) (fun _ h_ => h_.1))) hb); replace gZ := am (Kd.fP (by refine rR ?_; exact (Kd.aM (fR (fR (tR gZ nW))) (fun _ h_ => h_.1))) hb); replace iM := am (Kd.fP (by refine rR ?_; exact (Kd.aM (fR (fR (tR iM nW))) (fun _ h_ => h_.1))) hb); replace iN := am (Kd.dQ (by refine rN ?_; exact (Kd.aJ (fN (fN (Kd.aJ iN.1 (fun k_ hk => (⟨hk, hk.2⟩ : _ ∧ k_ ≠ pY))))) (fun _ h_ => h_.1))) hb); replace kI := am (Kd.fP (by refine rR ?_; exact (Kd.aM (fR (fR (tR kI nW))) (fun _ h_ => h_.1))) hb); replace l4 := am (Kd.dQ (by refine rN ?_; exact (Kd.aJ (fN (fN (Kd.aJ l4.1 (fun k_ hk => (⟨hk, hk.2⟩ : _ ∧ k_ ≠ pY))))) (fun _ h_ => h_.1))) hb); replace kH := am (bH (g := oE) (o := .cells #[.slice j5 l5.length iX, .slice xD dC.length vI] 31 (0, 0)) sd hb); replace mH := am (bH (g := rW) (o := .cells #[.slice FJ iI.length CV, .slice M6 m0.length IQ] 31 (0, 0)) se hb); replace nW := am (bH (g := pY) (o := .cells #[.slice FL eH.length CW, .slice M8 qE.length IR] 31 (0, 0)) (qP nW) hb); replace HB := bS UB hb; clear hb))
    ·go_meet
     case rel => exact ⟨_, (false), dM, H', ⟨by have := HJ2.out; first | omega | exact Nat.le_refl _⟩, ⟨by refine rR ?_; exact Kd.aM kZ.1 (fun _ hk => trivial)⟩, ⟨by refine rN ?_; exact Kd.aJ eP.1 (fun _ hk => ⟨hk.1.1.1.1.1.1.1.1, hk.1.1.1.1.1.1.2⟩)⟩, ⟨rB kH.1⟩, ⟨UB⟩⟩
    ·go_meet
     case rel => exact ⟨_, (false), dM, H', ⟨by have := HJ2.out; first | omega | exact Nat.le_refl _⟩, ⟨by refine rR ?_; exact Kd.aM kZ.1 (fun _ hk => trivial)⟩, ⟨by refine rN ?_; exact Kd.aJ eP.1 (fun _ hk => ⟨hk.1.1.1.1.1.1.1.1, hk.1.1.1.1.1.1.2⟩)⟩, ⟨rB kH.1⟩, ⟨UB⟩⟩
    ·go_meet
     case rel => exact ⟨_, (!QD), dM, H', ⟨by have := HJ2.out; first | omega | exact Nat.le_refl _⟩, ⟨by refine rR ?_; exact Kd.aM kZ.1 (fun _ hk => trivial)⟩, ⟨by refine rN ?_; exact Kd.aJ eP.1 (fun _ hk => ⟨hk.1.1.1.1.1.1.1.1, hk.1.1.1.1.1.1.2⟩)⟩, ⟨rB kH.1⟩, ⟨UB⟩⟩
    ·go_meet
     case rel => exact ⟨_, (false), dM, H', ⟨by have := HJ2.out; first | omega | exact Nat.le_refl _⟩, ⟨by refine rR ?_; exact Kd.aM kZ.1 (fun _ hk => trivial)⟩, ⟨by refine rN ?_; exact Kd.aJ eP.1 (fun _ hk => ⟨hk.1.1.1.1.1.1.1.1, hk.1.1.1.1.1.1.2⟩)⟩, ⟨rB kH.1⟩, ⟨UB⟩⟩
   case rest => as_aux_lemma =>
    clear HC9
    try clear c1
    try clear c5
    try clear La
    try clear Z20
    try clear zl
    try clear Z28
    obtain ⟨kq, Uk, rfl, HA, HJ8, jH, jN, kH, HB⟩ := hcut
    cases kq with
    | zero => exact absurd HA.out (by simp [dB.j1])
    | succ kj8 =>
     have H := HA.out
     clear HA
     simp only [dB.j1] at H
     refine tC H ?_ ?_ <;> clear H <;> intro c75 H <;> subst c75
     ·exact absurd H (by simp)
     ·obtain ⟨⟨BF, xK, Yx⟩, A76, H⟩ := bd H
      dsimp only at H
      obtain ⟨⟨C1, MW, Yz⟩, A77, H⟩ := bd H
      dsimp only at H
      have jh := am H
      clear H
      have Z79 := cz2 kH
      go_upto_region 10 with (first | ((with_reducible refine gC 47 ?_); refine cE (some 86) Try.func47 (oZ.calls kj8 _ _ l5 _ _ dC dZ BF xK Yx _ (pC (Kd.aU jH.1).2.2) ((Kd.aU jH.1).2.1) (pC (Kd.bL jN.1).2.2) ((Kd.bL jN.1).2.1) A76.out) ?_; rintro e w80 ⟨a4S, aVS, rfl, f3, lL, hb⟩; refine ⟨_, rfl, ?_⟩; have pR := am (Kd.d9 (Kd.fA f3 (Kd.R_lt RA)) (aG LR)); have uN := am (Kd.jD (Kd.aJ (ok' := fun k_ => some k_ ≠ (a4S : Value).ownBlock ∧ some k_ ≠ (.slice j5 l5.length iX : Value).ownBlock ∧ some k_ ≠ (.slice xD dC.length vI : Value).ownBlock ∧ k_ ≠ oE) (Kd.S_N (Kd.nP lL)) (fun k_ hk_ => ⟨hk_.1, (Kd.fresh' (Kd.R_lt RA) k_ hk_.2.1), (Kd.fresh' (Kd.N_lt U8) k_ hk_.2.1), (fB wT k_ hk_.2.1)⟩)) (aG LR)); replace jH := am (Kd.dS RA (Kd.bZ f3) hb); replace jN := am (Kd.aJ (Kd.iP (Kd.iP (Kd.xR U8 hb) (Kd.bZ f3)) uG) (fun _ h_ => h_.1)); replace kH := bB wT hb; replace HB := bS LR hb; clear hb f3 lL) | ((with_reducible refine gD 12 ?_); (try (refine mD (by rfl) ?_; dsimp only)); refine bX 12 #[.slice none 0 0, .slice none 0 0] 31 ?_; intro tQ hg w81 hbox hb; replace jH := RB RA hb; replace jN := am (Kd.dQ (Kd.iO U8 tQ (Nat.le_of_eq hg.symm)) hb); replace pR := am (Kd.fP (rR pR.1) hb); replace uN := am (Kd.dQ (Kd.iO (rN uN.1) tQ (Nat.le_of_eq hg.symm)) hb); have rK := am hbox; have xj := am (by rw [hg]; exact (aG LR) : w.heap.size ≤ tQ); have Zq := xj; replace HB := bS LR hb; have C4 := nL wT hg; have KE := nG wT hg; replace kH := bB wT hb; clear hb hbox hg; obtain ⟨EU, CZ, pv⟩ := Kd.bP pR.1; subst pv; have Z83 := nZ1 KE C4; have Z84 := cz2 rK; obtain ⟨N1, IU, Fc⟩ := Kd.gM uN.1; subst Fc; have Z86 := cz2 kH) | ((with_reducible refine lG (f := 46) rfl ?_); refine wO (some 92) rfl rfl Try.func46 (by kernel_rfl) rfl #[.agg #[.slice j5 l5.length iX, .slice xD dC.length vI], .string dZ] rfl xV ?_; (with_reducible refine (fV.calls kj8 _ _ l5 _ _ dC dZ C1 MW Yz _ ?side1 ?side2 ?side3 ?side4 A77.out).mono ?_); (case side1 => refine (Kd.aU (e := 9) (base := w.heap.size) (ok := fun k_ => some k_ ≠ (.slice EU BF.length CZ : Value).ownBlock) (n := l5.length) (c := iX) ?_).2.2; exact (by refine rR ?_; exact Kd.aM (fR (fR (tR jH rK))) (fun _ hk => hk.1.2))); (case side2 => exact (Kd.aU jH.1).2.1); (case side3 => refine (Kd.bL (e := 56) (base := w.heap.size) (ok := fun k_ => ((((some k_ ≠ (.slice j5 l5.length iX : Value).ownBlock ∧ k_ ≠ oE) ∧ some k_ ≠ (.slice EU BF.length CZ : Value).ownBlock) ∧ some k_ ≠ (.slice N1 xK.length IU : Value).ownBlock) ∧ k_ ≠ tQ)) (n := dC.length) (c := vI) ?_).2.2; exact (by refine rN ?_; exact (Kd.aJ (fN (fN (Kd.aJ jN.1 (fun k_ hk => (⟨hk, hk.2⟩ : _ ∧ k_ ≠ tQ))))) (fun _ h_ => h_.1)))); (case side4 => exact (Kd.bL jN.1).2.1); rintro e w87 ⟨uc, aH2, rfl, f3, lL, hb⟩; refine ⟨_, rfl, ?_⟩; have xO := am (Kd.d9 (Kd.fA (Kd.fA (Kd.aM (ok' := fun k_ => True) f3 (fun _ hk_ => trivial)) (Kd.R_lt (by refine rR ?_; exact (Kd.aM (fR (fR (tR jH rK))) (fun _ h_ => h_.1))))) (Kd.R_lt (by refine rR ?_; exact (Kd.aM (fR (fR (tR pR rK))) (fun _ h_ => h_.1))))) (aG Tg)); have xP := am (Kd.jD (Kd.aJ (ok' := fun k_ => some k_ ≠ (uc : Value).ownBlock ∧ some k_ ≠ (.slice j5 l5.length iX : Value).ownBlock ∧ some k_ ≠ (.slice xD dC.length vI : Value).ownBlock ∧ some k_ ≠ (.slice EU BF.length CZ : Value).ownBlock ∧ some k_ ≠ (.slice N1 xK.length IU : Value).ownBlock ∧ k_ ≠ oE ∧ k_ ≠ tQ) lL (fun k_ hk_ => ⟨hk_.2, (Kd.fresh' (Kd.R_lt (by refine rR ?_; exact (Kd.aM (fR (fR (tR jH rK))) (fun _ h_ => h_.1)))) k_ hk_.1), (Kd.fresh' (Kd.N_lt (by refine rN ?_; exact (Kd.aJ (fN (fN (Kd.aJ jN.1 (fun k_ hk => (⟨hk, hk.2⟩ : _ ∧ k_ ≠ tQ))))) (fun _ h_ => h_.1)))) k_ hk_.1), (Kd.fresh' (Kd.R_lt (by refine rR ?_; exact (Kd.aM (fR (fR (tR pR rK))) (fun _ h_ => h_.1)))) k_ hk_.1), (Kd.fresh' (Kd.N_lt (by refine rN ?_; exact (Kd.aJ (fN (fN (Kd.aJ uN.1 (fun k_ hk => (⟨hk, hk.2⟩ : _ ∧ k_ ≠ tQ))))) (fun _ h_ => h_.1)))) k_ hk_.1), (Kd.uA (g := oE) (o := .cells #[.slice j5 l5.length iX, .slice xD dC.length vI] 31 (0, 0)) (qF kH C4) k_ hk_.1), (Kd.uA (g := tQ) (o := .cells #[.slice EU BF.length CZ, .slice N1 xK.length IU] 31 (0, 0)) (qP rK) k_ hk_.1)⟩)) (aG Tg)); replace jH := am (Kd.dS (by refine rR ?_; exact (Kd.aM (fR (fR (tR jH rK))) (fun _ h_ => h_.1))) (Kd.bZ f3) hb); replace jN := am (Kd.aJ (Kd.iP (Kd.iP (Kd.xR (by refine rN ?_; exact (Kd.aJ (fN (fN (Kd.aJ jN.1 (fun k_ hk => (⟨hk, hk.2⟩ : _ ∧ k_ ≠ tQ))))) (fun _ h_ => h_.1))) hb) (Kd.bZ f3)) uG) (fun _ h_ => h_.1)); replace pR := am (Kd.dS (by refine rR ?_; exact (Kd.aM (fR (fR (tR pR rK))) (fun _ h_ => h_.1))) (Kd.bZ f3) hb); replace uN := am (Kd.aJ (Kd.iP (Kd.iP (Kd.xR (by refine rN ?_; exact (Kd.aJ (fN (fN (Kd.aJ uN.1 (fun k_ hk => (⟨hk, hk.2⟩ : _ ∧ k_ ≠ tQ))))) (fun _ h_ => h_.1))) hb) (Kd.bZ f3)) uG) (fun _ h_ => h_.1)); replace kH := am (bH (g := oE) (o := .cells #[.slice j5 l5.length iX, .slice xD dC.length vI] 31 (0, 0)) (qF kH C4) hb); replace rK := am (bH (g := tQ) (o := .cells #[.slice EU BF.length CZ, .slice N1 xK.length IU] 31 (0, 0)) (qP rK) hb); replace HB := bS Tg hb; clear hb f3 lL) | ((with_reducible refine gD 14 ?_); (try (refine mD (by rfl) ?_; dsimp only)); refine bX 14 #[.slice none 0 0, .slice none 0 0] 31 ?_; intro uF hg w88 hbox hb; replace jH := RB RA hb; replace jN := am (Kd.dQ (Kd.iO U8 uF (Nat.le_of_eq hg.symm)) hb); replace pR := am (Kd.fP (rR pR.1) hb); replace uN := am (Kd.dQ (Kd.iO (rN uN.1) uF (Nat.le_of_eq hg.symm)) hb); replace xO := am (Kd.fP (rR xO.1) hb); replace xP := am (Kd.dQ (Kd.iO (rN xP.1) uF (Nat.le_of_eq hg.symm)) hb); have uM := am hbox; have xk := am (by rw [hg]; exact (aG Tg) : w.heap.size ≤ uF); have xc := xk; replace HB := bS Tg hb; have C5 := nL wT hg; have KF := nG wT hg; replace kH := bB wT hb; have C6 := am (by rw [hg]; exact Nat.ne_of_lt (gL (g := tQ) (o := .cells #[.slice EU BF.length CZ, .slice N1 xK.length IU] 31 (0, 0)) (rB rK.1)) : tQ ≠ uF); have KG := am (by rw [hg]; exact Nat.ne_of_gt (gL (g := tQ) (o := .cells #[.slice EU BF.length CZ, .slice N1 xK.length IU] 31 (0, 0)) (rB rK.1)) : uF ≠ tQ); replace rK := am (bH (g := tQ) (o := .cells #[.slice EU BF.length CZ, .slice N1 xK.length IU] 31 (0, 0)) (rB rK.1) hb); clear hb hbox hg; obtain ⟨T9, PW, aF0⟩ := Kd.bP xO.1; subst aF0; have Z90 := nZ2 KF C5 KG C6; have Z92 := cz2 uM; obtain ⟨X5, TQ, qe⟩ := Kd.gM xP.1; subst qe))
      (try simp only [Act.put, List.setIfInBounds_toArray, List.set_cons_zero, List.set_cons_succ])
      go_cut [126] (fun Ac wc => ∃ (kq : Nat) (Ad : Bool), Ac = .bool Ad ∧ aC (dB.j2 kq l1 Ad = some r) ∧ aC (kq ≤ kj8) ∧ aC (Below w.heap.size w wc))
      case first => as_aux_lemma =>
       have H := jh.1
       clear jh
       by_cases c94 : Yx = Yz
       rw [if_pos c94] at H
       have ct : (Yx == Yz) = true := beq_iff_eq.mpr c94
       have aMF : (Yx != Yz) = false := bne_eq_false_iff_eq.mpr c94
       clear c94
       (first | rw [ct] | (simp only [q8, uS]; rw [ct]) | skip)
       obtain ⟨Ts, A95, H⟩ := bd H
       refine tC H ?_ ?_ <;> clear H <;> intro c96 H <;> subst c96
       refine iq H ?_ ?_ <;> clear H <;> intro c97 a0W aMG H
       by_cases mo : (xK.length : Int) = (wrap64 ((dC.length : Int) - 1))
       rw [if_pos mo] at H
       have Qw : ((xK.length : Int) == (wrap64 ((dC.length : Int) - 1))) = true := beq_iff_eq.mpr mo
       have cv : ((xK.length : Int) != (wrap64 ((dC.length : Int) - 1))) = false := bne_eq_false_iff_eq.mpr mo
       clear mo
       obtain ⟨a4J, Zl, H⟩ := bd H
       refine tC H ?_ ?_ <;> clear H <;> intro aD8 H <;> subst aD8
       obtain ⟨a4K, Km, H⟩ := bd H
       have H' := am H
       repeat clear H
       have aSF := nZ2 KE C4 C6 KG
       have zj := cz2 rK
       have aSG := nZ1 KF C5
       have aCU := cz2 uM
       have Ox := trivial
       have Ie := trivial
       rotate_left
       have H' := am H
       repeat clear H
       have aSJ := nZ2 KE C4 C6 KG
       have aSL := cz2 rK
       have aCV := nZ1 KF C5
       have aSM := cz2 uM
       have Ox := trivial
       have au := trivial
       rotate_left
       rw [if_neg mo] at H
       exact absurd H (by simp)
       have H' := am H
       repeat clear H
       have aCW := nZ2 KE C4 C6 KG
       have zk := cz2 rK
       have aCX := nZ1 KF C5
       have aCY := cz2 uM
       have av := trivial
       rotate_left
       exact absurd H (by simp)
       rw [if_neg c94] at H
       exact absurd H (by simp)
       all_goals
        go_wp2_with (first | (go_at_call 64; revert Ox; intro Ox; (with_reducible refine (dK.calls kj8 _ _ BF _ _ xK _ _ C1 _ _ MW true _ ?side1 ?side2 ?side3 ?side4 ?side5 ?side6 ?side7 ?side8 A95.out).mono ?_); (case side1 => refine (Kd.aU (e := 9) (base := w.heap.size) (ok := fun k_ => (some k_ ≠ (.slice j5 l5.length iX : Value).ownBlock ∧ some k_ ≠ (.slice T9 C1.length PW : Value).ownBlock)) (n := BF.length) (c := CZ) ?_).2.2; exact (by refine rR ?_; exact Kd.aM (fR (fR (tR pR uM))) (fun _ hk => ⟨hk.1.1.2, hk.1.2⟩))); (case side2 => exact (Kd.aU pR.1).2.1); (case side3 => refine (Kd.bL (e := 56) (base := w.heap.size) (ok := fun k_ => (((((some k_ ≠ (.slice EU BF.length CZ : Value).ownBlock ∧ (some k_ ≠ (.slice j5 l5.length iX : Value).ownBlock ∧ (some k_ ≠ (.slice xD dC.length vI : Value).ownBlock ∧ k_ ≠ oE))) ∧ k_ ≠ tQ) ∧ some k_ ≠ (.slice T9 C1.length PW : Value).ownBlock) ∧ some k_ ≠ (.slice X5 MW.length TQ : Value).ownBlock) ∧ k_ ≠ uF)) (n := xK.length) (c := IU) ?_).2.2; exact (by refine rN ?_; exact (Kd.aJ (fN (fN (Kd.aJ uN.1 (fun k_ hk => (⟨hk, hk.2⟩ : _ ∧ k_ ≠ uF))))) (fun _ h_ => h_.1)))); (case side4 => exact (Kd.bL uN.1).2.1); (case side5 => refine (Kd.aU (e := 9) (base := w.heap.size) (ok := fun k_ => (some k_ ≠ (.slice j5 l5.length iX : Value).ownBlock ∧ some k_ ≠ (.slice EU BF.length CZ : Value).ownBlock)) (n := C1.length) (c := PW) ?_).2.2; exact (by refine rR ?_; exact Kd.aM (fR (fR (tR xO uM))) (fun _ hk => ⟨hk.1.1.2, hk.1.2⟩))); (case side6 => exact (Kd.aU xO.1).2.1); (case side7 => refine (Kd.bL (e := 56) (base := w.heap.size) (ok := fun k_ => ((some k_ ≠ (.slice T9 C1.length PW : Value).ownBlock ∧ (some k_ ≠ (.slice j5 l5.length iX : Value).ownBlock ∧ (some k_ ≠ (.slice xD dC.length vI : Value).ownBlock ∧ (some k_ ≠ (.slice EU BF.length CZ : Value).ownBlock ∧ (some k_ ≠ (.slice N1 xK.length IU : Value).ownBlock ∧ (k_ ≠ oE ∧ k_ ≠ tQ)))))) ∧ k_ ≠ uF)) (n := MW.length) (c := TQ) ?_).2.2; exact (by refine rN ?_; exact (Kd.aJ (fN (fN (Kd.aJ xP.1 (fun k_ hk => (⟨hk, hk.2⟩ : _ ∧ k_ ≠ uF))))) (fun _ h_ => h_.1)))); (case side8 => exact (Kd.bL xP.1).2.1); rintro e aR9 ⟨rfl, hb⟩; replace jH := am (Kd.fP (by refine rR ?_; exact (Kd.aM (fR (fR (tR jH uM))) (fun _ h_ => h_.1))) hb); replace jN := am (Kd.dQ (by refine rN ?_; exact (Kd.aJ (fN (fN (Kd.aJ jN.1 (fun k_ hk => (⟨hk, hk.2⟩ : _ ∧ k_ ≠ uF))))) (fun _ h_ => h_.1))) hb); replace pR := am (Kd.fP (by refine rR ?_; exact (Kd.aM (fR (fR (tR pR uM))) (fun _ h_ => h_.1))) hb); replace uN := am (Kd.dQ (by refine rN ?_; exact (Kd.aJ (fN (fN (Kd.aJ uN.1 (fun k_ hk => (⟨hk, hk.2⟩ : _ ∧ k_ ≠ uF))))) (fun _ h_ => h_.1))) hb); replace xO := am (Kd.fP (by refine rR ?_; exact (Kd.aM (fR (fR (tR xO uM))) (fun _ h_ => h_.1))) hb); replace xP := am (Kd.dQ (by refine rN ?_; exact (Kd.aJ (fN (fN (Kd.aJ xP.1 (fun k_ hk => (⟨hk, hk.2⟩ : _ ∧ k_ ≠ uF))))) (fun _ h_ => h_.1))) hb); replace kH := am (bH (g := oE) (o := .cells #[.slice j5 l5.length iX, .slice xD dC.length vI] 31 (0, 0)) a3T hb); replace rK := am (bH (g := tQ) (o := .cells #[.slice EU BF.length CZ, .slice N1 xK.length IU] 31 (0, 0)) a3U hb); replace uM := am (bH (g := uF) (o := .cells #[.slice T9 C1.length PW, .slice X5 MW.length TQ] 31 (0, 0)) (qP uM) hb); replace HB := bS Ct hb; clear hb; have aKV := cz2 rK; have aKW := cz2 kH) | (go_at_call 36; revert Ie; intro Ie; revert Zl; intro Zl; refine cM (gF.calls kj8 _ _ l5 _ _ dC true _ (pC (Kd.aU jH.1).2.2) ((Kd.aU jH.1).2.1) (pC (Kd.bL jN.1).2.2) ((Kd.bL jN.1).2.1) Zl.out) ?_; rintro aRA hb; replace jH := RB RA hb; replace jN := NE U8 hb; replace pR := am (Kd.fP (rR pR.1) hb); replace uN := am (Kd.dQ (rN uN.1) hb); replace xO := am (Kd.fP (rR xO.1) hb); replace xP := am (Kd.dQ (rN xP.1) hb); replace kH := bB wT hb; replace rK := am (bH (g := tQ) (o := .cells #[.slice EU BF.length CZ, .slice N1 xK.length IU] 31 (0, 0)) (rB rK.1) hb); replace uM := am (bH (g := uF) (o := .cells #[.slice T9 C1.length PW, .slice X5 MW.length TQ] 31 (0, 0)) (rB uM.1) hb); replace HB := bS Ct hb; clear hb; have aKX := cz2 rK; clear Zl) | (go_at_call 36; revert Ie; intro Ie; revert Km; intro Km; refine cM (gF.calls kj8 _ _ BF _ _ xK a4K _ (pC (Kd.aU pR.1).2.2) ((Kd.aU pR.1).2.1) (pC (Kd.bL uN.1).2.2) ((Kd.bL uN.1).2.1) Km.out) ?_; rintro aRB hb; replace jH := RB RA hb; replace jN := NE U8 hb; replace pR := am (Kd.fP (rR pR.1) hb); replace uN := am (Kd.dQ (rN uN.1) hb); replace xO := am (Kd.fP (rR xO.1) hb); replace xP := am (Kd.dQ (rN xP.1) hb); replace kH := bB wT hb; replace rK := am (bH (g := tQ) (o := .cells #[.slice EU BF.length CZ, .slice N1 xK.length IU] 31 (0, 0)) (rB rK.1) hb); replace uM := am (bH (g := uF) (o := .cells #[.slice T9 C1.length PW, .slice X5 MW.length TQ] 31 (0, 0)) (rB uM.1) hb); replace HB := bS Ct hb; clear hb; clear Km) | (go_at_call 36; revert au; intro au; revert Zl; intro Zl; refine cM (gF.calls kj8 _ _ l5 _ _ dC false _ (pC (Kd.aU jH.1).2.2) ((Kd.aU jH.1).2.1) (pC (Kd.bL jN.1).2.2) ((Kd.bL jN.1).2.1) Zl.out) ?_; rintro aRC hb; replace jH := RB RA hb; replace jN := NE U8 hb; replace pR := am (Kd.fP (rR pR.1) hb); replace uN := am (Kd.dQ (rN uN.1) hb); replace xO := am (Kd.fP (rR xO.1) hb); replace xP := am (Kd.dQ (rN xP.1) hb); replace kH := bB wT hb; replace rK := am (bH (g := tQ) (o := .cells #[.slice EU BF.length CZ, .slice N1 xK.length IU] 31 (0, 0)) (rB rK.1) hb); replace uM := am (bH (g := uF) (o := .cells #[.slice T9 C1.length PW, .slice X5 MW.length TQ] 31 (0, 0)) (rB uM.1) hb); replace HB := bS Ct hb; clear hb; clear Zl) | (go_at_call 64; revert av; intro av; (with_reducible refine (dK.calls kj8 _ _ BF _ _ xK _ _ C1 _ _ MW true _ ?side1 ?side2 ?side3 ?side4 ?side5 ?side6 ?side7 ?side8 A95.out).mono ?_); (case side1 => refine (Kd.aU (e := 9) (base := w.heap.size) (ok := fun k_ => (some k_ ≠ (.slice j5 l5.length iX : Value).ownBlock ∧ some k_ ≠ (.slice T9 C1.length PW : Value).ownBlock)) (n := BF.length) (c := CZ) ?_).2.2; exact (by refine rR ?_; exact Kd.aM (fR (fR (tR pR uM))) (fun _ hk => ⟨hk.1.1.2, hk.1.2⟩))); (case side2 => exact (Kd.aU pR.1).2.1); (case side3 => refine (Kd.bL (e := 56) (base := w.heap.size) (ok := fun k_ => (((((some k_ ≠ (.slice EU BF.length CZ : Value).ownBlock ∧ (some k_ ≠ (.slice j5 l5.length iX : Value).ownBlock ∧ (some k_ ≠ (.slice xD dC.length vI : Value).ownBlock ∧ k_ ≠ oE))) ∧ k_ ≠ tQ) ∧ some k_ ≠ (.slice T9 C1.length PW : Value).ownBlock) ∧ some k_ ≠ (.slice X5 MW.length TQ : Value).ownBlock) ∧ k_ ≠ uF)) (n := xK.length) (c := IU) ?_).2.2; exact (by refine rN ?_; exact (Kd.aJ (fN (fN (Kd.aJ uN.1 (fun k_ hk => (⟨hk, hk.2⟩ : _ ∧ k_ ≠ uF))))) (fun _ h_ => h_.1)))); (case side4 => exact (Kd.bL uN.1).2.1); (case side5 => refine (Kd.aU (e := 9) (base := w.heap.size) (ok := fun k_ => (some k_ ≠ (.slice j5 l5.length iX : Value).ownBlock ∧ some k_ ≠ (.slice EU BF.length CZ : Value).ownBlock)) (n := C1.length) (c := PW) ?_).2.2; exact (by refine rR ?_; exact Kd.aM (fR (fR (tR xO uM))) (fun _ hk => ⟨hk.1.1.2, hk.1.2⟩))); (case side6 => exact (Kd.aU xO.1).2.1); (case side7 => refine (Kd.bL (e := 56) (base := w.heap.size) (ok := fun k_ => ((some k_ ≠ (.slice T9 C1.length PW : Value).ownBlock ∧ (some k_ ≠ (.slice j5 l5.length iX : Value).ownBlock ∧ (some k_ ≠ (.slice xD dC.length vI : Value).ownBlock ∧ (some k_ ≠ (.slice EU BF.length CZ : Value).ownBlock ∧ (some k_ ≠ (.slice N1 xK.length IU : Value).ownBlock ∧ (k_ ≠ oE ∧ k_ ≠ tQ)))))) ∧ k_ ≠ uF)) (n := MW.length) (c := TQ) ?_).2.2; exact (by refine rN ?_; exact (Kd.aJ (fN (fN (Kd.aJ xP.1 (fun k_ hk => (⟨hk, hk.2⟩ : _ ∧ k_ ≠ uF))))) (fun _ h_ => h_.1)))); (case side8 => exact (Kd.bL xP.1).2.1); rintro e aRD ⟨rfl, hb⟩; replace jH := am (Kd.fP (by refine rR ?_; exact (Kd.aM (fR (fR (tR jH uM))) (fun _ h_ => h_.1))) hb); replace jN := am (Kd.dQ (by refine rN ?_; exact (Kd.aJ (fN (fN (Kd.aJ jN.1 (fun k_ hk => (⟨hk, hk.2⟩ : _ ∧ k_ ≠ uF))))) (fun _ h_ => h_.1))) hb); replace pR := am (Kd.fP (by refine rR ?_; exact (Kd.aM (fR (fR (tR pR uM))) (fun _ h_ => h_.1))) hb); replace uN := am (Kd.dQ (by refine rN ?_; exact (Kd.aJ (fN (fN (Kd.aJ uN.1 (fun k_ hk => (⟨hk, hk.2⟩ : _ ∧ k_ ≠ uF))))) (fun _ h_ => h_.1))) hb); replace xO := am (Kd.fP (by refine rR ?_; exact (Kd.aM (fR (fR (tR xO uM))) (fun _ h_ => h_.1))) hb); replace xP := am (Kd.dQ (by refine rN ?_; exact (Kd.aJ (fN (fN (Kd.aJ xP.1 (fun k_ hk => (⟨hk, hk.2⟩ : _ ∧ k_ ≠ uF))))) (fun _ h_ => h_.1))) hb); replace kH := am (bH (g := oE) (o := .cells #[.slice j5 l5.length iX, .slice xD dC.length vI] 31 (0, 0)) a3T hb); replace rK := am (bH (g := tQ) (o := .cells #[.slice EU BF.length CZ, .slice N1 xK.length IU] 31 (0, 0)) a3U hb); replace uM := am (bH (g := uF) (o := .cells #[.slice T9 C1.length PW, .slice X5 MW.length TQ] 31 (0, 0)) (qP uM) hb); replace HB := bS Ct hb; clear hb))
       ·go_meet
        case rel => exact ⟨_, (!a4K), dM, H', ⟨by have := HJ2.out; have := HJ8.out; first | omega | exact Nat.le_refl _⟩, ⟨Ct⟩⟩
       ·go_meet
        case rel => exact ⟨_, (false), dM, H', ⟨by have := HJ2.out; have := HJ8.out; first | omega | exact Nat.le_refl _⟩, ⟨Ct⟩⟩
       ·go_meet
        case rel => exact ⟨_, (false), dM, H', ⟨by have := HJ2.out; have := HJ8.out; first | omega | exact Nat.le_refl _⟩, ⟨Ct⟩⟩
      case rest => as_aux_lemma =>
       clear jh
       try clear c1
       try clear c5
       try clear c75
       try clear La
       try clear Z20
       try clear zl
       try clear Z28
       try clear Z79
       try clear Z84
       try clear Z86
       try clear Z92
       obtain ⟨kq, Ad, rfl, HA, aSC, HB⟩ := hcut
       cases kq with
       | zero => exact absurd HA.out (by simp [dB.j2])
       | succ kj77 =>
        have H := HA.out
        clear HA
        simp only [dB.j2] at H
        refine tC H ?_ ?_ <;> clear H <;> intro aDM H <;> subst aDM
        exact absurd H (by simp)
        obtain ⟨⟨y5, E8, MX, FC⟩, aBY, H⟩ := bd H
        dsimp only at H
        obtain ⟨⟨GH, JY, Za⟩, aBZ, H⟩ := bd H
        dsimp only at H
        obtain ⟨⟨I5, MY, Zb⟩, aC0, H⟩ := bd H
        dsimp only at H
        by_cases Qq : Za = Zb
        rw [if_pos Qq] at H
        have aDN : (Za == Zb) = true := beq_iff_eq.mpr Qq
        have aDO : (Za != Zb) = false := bne_eq_false_iff_eq.mpr Qq
        clear Qq
        obtain ⟨aVK, gh, H⟩ := bd H
        refine tC H ?_ ?_ <;> clear H <;> intro aDP H <;> subst aDP
        refine iq H ?_ ?_ <;> clear H <;> intro aTV aDQ aDR H
        obtain ⟨Tt, aC1, H⟩ := bd H
        obtain ⟨Tu, gi, H⟩ := bd H
        by_cases RP : (Tt == Tu) = true
        rw [if_pos RP] at H
        have mc : (Tt == Tu) = true := RP
        (try (have mf : decide (Tt = Tu) = true := by simpa using RP))
        (try (have mg : (Tt == Tu) = true := by simpa using RP))
        clear RP
        by_cases Qr : (JY.length : Int) = (wrap64 ((E8.length : Int) + 1))
        rw [if_pos Qr] at H
        have aDT : ((JY.length : Int) == (wrap64 ((E8.length : Int) + 1))) = true := beq_iff_eq.mpr Qr
        have aDU : ((JY.length : Int) != (wrap64 ((E8.length : Int) + 1))) = false := bne_eq_false_iff_eq.mpr Qr
        clear Qr
        obtain ⟨aDV, H⟩ := cN H
        obtain rfl := Option.some.inj H
        repeat clear H
        rotate_left
        rw [if_neg Qr] at H
        exact absurd H (by simp)
        rw [if_neg RP] at H
        exact absurd H (by simp)
        refine ic H ?_ ?_ <;> clear H <;> intro aDW H
        obtain rfl := Option.some.inj H
        repeat clear H
        rotate_left
        obtain ⟨aGP, aC3, H⟩ := bd H
        obtain rfl := Option.some.inj H
        repeat clear H
        rotate_left
        exact absurd H (by simp)
        rw [if_neg Qq] at H
        exact absurd H (by simp)
        all_goals
         try go_wp2_with (first | ((with_reducible refine gC 67 ?_); refine cE (some 129) Try.func67 (eT.calls kj77 _ _ l1 y5 E8 MX FC _ (pB IL) LA.1 aBY.out) ?_; rintro e aRE ⟨a4U, Mt, a4V, rfl, f3, lL, Lq, hb⟩; refine ⟨_, rfl, ?_⟩; have kJ := am (Kd.d9 (Kd.aM (ok' := fun k_ => some k_ ≠ (a4V : Value).ownBlock) f3 (fun _ hk_ => hk_.2)) (aG eG)); have lF := am (Kd.jD (Kd.aJ (ok' := fun k_ => some k_ ≠ (a4U : Value).ownBlock ∧ some k_ ≠ (a4V : Value).ownBlock) lL (fun k_ hk_ => ⟨hk_.2.1, hk_.2.2⟩)) (aG eG)); have r5 := am (Kd.d9 (Kd.aM (ok' := fun k_ => some k_ ≠ (a4U : Value).ownBlock) Lq (fun _ hk_ => hk_.2)) (aG eG)); replace HB := bS eG hb; clear hb f3 lL Lq) | ((with_reducible refine gD 16 ?_); (try (refine mD (by rfl) ?_; dsimp only)); refine bX 16 #[.slice none 0 0, .slice none 0 0] 31 ?_; intro BM hg aRF hbox hb; replace kJ := RB P0 hb; replace lF := am (Kd.dQ (Kd.iO JQ BM (Nat.le_of_eq hg.symm)) hb); replace r5 := RB P2 hb; have nN := am hbox; have xl := am (oS : w.heap.size ≤ BM); have Ao := xl; replace HB := bS eG hb; clear hb hbox hg; obtain ⟨tT, sI, pw⟩ := Kd.bP kJ.1; subst pw; have aKY := cz2 nN; obtain ⟨CC, zJ, px⟩ := Kd.gM lF.1; subst px; obtain ⟨xF, vJ, py⟩ := Kd.bP r5.1; subst py) | ((with_reducible refine lG (f := 60) rfl ?_); refine wO (some 137) rfl rfl Try.func60 (by kernel_rfl) rfl #[.agg #[.slice tT y5.length sI, .slice CC E8.length zJ], .string MX, .slice xF FC.length vJ] rfl xV ?_; (with_reducible refine (oW.calls kj77 _ _ y5 _ _ E8 MX _ _ FC GH JY Za _ ?side1 ?side2 ?side3 ?side4 ?side5 ?side6 aBZ.out).mono ?_); (case side1 => refine (Kd.aU (e := 9) (base := w.heap.size) (ok := fun k_ => some k_ ≠ (.slice xF FC.length vJ : Value).ownBlock) (n := y5.length) (c := sI) ?_).2.2; exact (by refine rR ?_; exact (Kd.aM (fR (fR (tR kJ nN))) (fun _ h_ => h_.1)))); (case side2 => exact (Kd.aU kJ.1).2.1); (case side3 => refine (Kd.bL (e := 56) (base := w.heap.size) (ok := fun k_ => ((some k_ ≠ (.slice tT y5.length sI : Value).ownBlock ∧ some k_ ≠ (.slice xF FC.length vJ : Value).ownBlock) ∧ k_ ≠ BM)) (n := E8.length) (c := zJ) ?_).2.2; exact (by refine rN ?_; exact (Kd.aJ (fN (fN (Kd.aJ lF.1 (fun k_ hk => (⟨hk, hk.2⟩ : _ ∧ k_ ≠ BM))))) (fun _ h_ => h_.1)))); (case side4 => exact (Kd.bL lF.1).2.1); (case side5 => refine (Kd.aU (e := 9) (base := w.heap.size) (ok := fun k_ => some k_ ≠ (.slice tT y5.length sI : Value).ownBlock) (n := FC.length) (c := vJ) ?_).2.2; exact (by refine rR ?_; exact (Kd.aM (fR (fR (tR r5 nN))) (fun _ h_ => h_.1)))); (case side6 => exact (Kd.aU r5.1).2.1); rintro e aRG ⟨aH3, aVZ, rfl, f3, lL, hb⟩; refine ⟨_, rfl, ?_⟩; have qI := am (Kd.d9 (Kd.fA (Kd.fA f3 (Kd.R_lt (by refine rR ?_; exact (Kd.aM (fR (fR (tR kJ nN))) (fun _ h_ => h_.1))))) (Kd.R_lt (by refine rR ?_; exact (Kd.aM (fR (fR (tR r5 nN))) (fun _ h_ => h_.1))))) (aG Kf)); have lB := am (Kd.jD (Kd.aJ (ok' := fun k_ => some k_ ≠ (aH3 : Value).ownBlock ∧ some k_ ≠ (.slice tT y5.length sI : Value).ownBlock ∧ some k_ ≠ (.slice CC E8.length zJ : Value).ownBlock ∧ some k_ ≠ (.slice xF FC.length vJ : Value).ownBlock ∧ k_ ≠ BM) (Kd.S_N (Kd.nP lL)) (fun k_ hk_ => ⟨hk_.1, (Kd.fresh' (Kd.R_lt (by refine rR ?_; exact (Kd.aM (fR (fR (tR kJ nN))) (fun _ h_ => h_.1)))) k_ hk_.2.1), (Kd.fresh' (Kd.N_lt (by refine rN ?_; exact (Kd.aJ (fN (fN (Kd.aJ lF.1 (fun k_ hk => (⟨hk, hk.2⟩ : _ ∧ k_ ≠ BM))))) (fun _ h_ => h_.1)))) k_ hk_.2.1), (Kd.fresh' (Kd.R_lt (by refine rR ?_; exact (Kd.aM (fR (fR (tR r5 nN))) (fun _ h_ => h_.1)))) k_ hk_.2.1), (Kd.uA (g := BM) (o := .cells #[.slice tT y5.length sI, .slice CC E8.length zJ] 31 (0, 0)) (qP nN) k_ hk_.2.1)⟩)) (aG Kf)); replace kJ := am (Kd.dS (by refine rR ?_; exact (Kd.aM (fR (fR (tR kJ nN))) (fun _ h_ => h_.1))) (Kd.bZ f3) hb); replace lF := am (Kd.aJ (Kd.iP (Kd.iP (Kd.xR (by refine rN ?_; exact (Kd.aJ (fN (fN (Kd.aJ lF.1 (fun k_ hk => (⟨hk, hk.2⟩ : _ ∧ k_ ≠ BM))))) (fun _ h_ => h_.1))) hb) (Kd.bZ f3)) uG) (fun _ h_ => h_.1)); replace r5 := am (Kd.dS (by refine rR ?_; exact (Kd.aM (fR (fR (tR r5 nN))) (fun _ h_ => h_.1))) (Kd.bZ f3) hb); replace nN := am (bH (g := BM) (o := .cells #[.slice tT y5.length sI, .slice CC E8.length zJ] 31 (0, 0)) (qP nN) hb); replace HB := bS Kf hb; clear hb f3 lL) | ((with_reducible refine gD 19 ?_); (try (refine mD (by rfl) ?_; dsimp only)); refine bX 19 #[.slice none 0 0, .slice none 0 0] 31 ?_; intro DA hg aRH hbox hb; replace kJ := RB P0 hb; replace lF := am (Kd.dQ (Kd.iO JQ DA (Nat.le_of_eq hg.symm)) hb); replace r5 := RB P2 hb; replace qI := RB RG hb; replace lB := am (Kd.dQ (Kd.iO RH DA (Nat.le_of_eq hg.symm)) hb); have mW := am hbox; have xm := am (aGB : w.heap.size ≤ DA); have Ny := xm; replace HB := bS Kf hb; have PR := nL IJ hg; have Kw := nG IJ hg; replace nN := bB IJ hb; clear hb hbox hg; obtain ⟨z6, zK, pz⟩ := Kd.bP qI.1; subst pz; have aKZ := nZ1 Kw PR; have aL0 := cz2 mW; obtain ⟨M9, MH, qa⟩ := Kd.gM lB.1; subst qa; have aL1 := cz2 nN) | ((with_reducible refine lG (f := 59) rfl ?_); refine wO (some 144) rfl rfl Try.func59 (by kernel_rfl) rfl #[.agg #[.slice tT y5.length sI, .slice CC E8.length zJ], .string MX, .slice xF FC.length vJ] rfl xV ?_; (with_reducible refine (cK.calls kj77 _ _ y5 _ _ E8 MX _ _ FC I5 MY Zb _ ?side1 ?side2 ?side3 ?side4 ?side5 ?side6 aC0.out).mono ?_); (case side1 => refine (Kd.aU (e := 9) (base := w.heap.size) (ok := fun k_ => (some k_ ≠ (.slice xF FC.length vJ : Value).ownBlock ∧ some k_ ≠ (.slice z6 GH.length zK : Value).ownBlock)) (n := y5.length) (c := sI) ?_).2.2; exact (by refine rR ?_; exact (Kd.aM (fR (fR (tR kJ mW))) (fun _ h_ => h_.1)))); (case side2 => exact (Kd.aU kJ.1).2.1); (case side3 => refine (Kd.bL (e := 56) (base := w.heap.size) (ok := fun k_ => (((((some k_ ≠ (.slice tT y5.length sI : Value).ownBlock ∧ some k_ ≠ (.slice xF FC.length vJ : Value).ownBlock) ∧ k_ ≠ BM) ∧ some k_ ≠ (.slice z6 GH.length zK : Value).ownBlock) ∧ some k_ ≠ (.slice M9 JY.length MH : Value).ownBlock) ∧ k_ ≠ DA)) (n := E8.length) (c := zJ) ?_).2.2; exact (by refine rN ?_; exact (Kd.aJ (fN (fN (Kd.aJ lF.1 (fun k_ hk => (⟨hk, hk.2⟩ : _ ∧ k_ ≠ DA))))) (fun _ h_ => h_.1)))); (case side4 => exact (Kd.bL lF.1).2.1); (case side5 => refine (Kd.aU (e := 9) (base := w.heap.size) (ok := fun k_ => (some k_ ≠ (.slice tT y5.length sI : Value).ownBlock ∧ some k_ ≠ (.slice z6 GH.length zK : Value).ownBlock)) (n := FC.length) (c := vJ) ?_).2.2; exact (by refine rR ?_; exact (Kd.aM (fR (fR (tR r5 mW))) (fun _ h_ => h_.1)))); (case side6 => exact (Kd.aU r5.1).2.1); rintro e aRI ⟨aH4, aW1, rfl, f3, lL, hb⟩; refine ⟨_, rfl, ?_⟩; have wF := am (Kd.d9 (Kd.fA (Kd.fA (Kd.fA (Kd.aM (ok' := fun k_ => True) f3 (fun _ hk_ => trivial)) (Kd.R_lt (by refine rR ?_; exact (Kd.aM (fR (fR (tR kJ mW))) (fun _ h_ => h_.1))))) (Kd.R_lt (by refine rR ?_; exact (Kd.aM (fR (fR (tR r5 mW))) (fun _ h_ => h_.1))))) (Kd.R_lt (by refine rR ?_; exact (Kd.aM (fR (fR (tR qI mW))) (fun _ h_ => h_.1))))) (aG Yr)); have wG := am (Kd.jD (Kd.aJ (ok' := fun k_ => some k_ ≠ (aH4 : Value).ownBlock ∧ some k_ ≠ (.slice tT y5.length sI : Value).ownBlock ∧ some k_ ≠ (.slice CC E8.length zJ : Value).ownBlock ∧ some k_ ≠ (.slice xF FC.length vJ : Value).ownBlock ∧ some k_ ≠ (.slice z6 GH.length zK : Value).ownBlock ∧ some k_ ≠ (.slice M9 JY.length MH : Value).ownBlock ∧ k_ ≠ BM ∧ k_ ≠ DA) lL (fun k_ hk_ => ⟨hk_.2, (Kd.fresh' (Kd.R_lt (by refine rR ?_; exact (Kd.aM (fR (fR (tR kJ mW))) (fun _ h_ => h_.1)))) k_ hk_.1), (Kd.fresh' (Kd.N_lt (by refine rN ?_; exact (Kd.aJ (fN (fN (Kd.aJ lF.1 (fun k_ hk => (⟨hk, hk.2⟩ : _ ∧ k_ ≠ DA))))) (fun _ h_ => h_.1)))) k_ hk_.1), (Kd.fresh' (Kd.R_lt (by refine rR ?_; exact (Kd.aM (fR (fR (tR r5 mW))) (fun _ h_ => h_.1)))) k_ hk_.1), (Kd.fresh' (Kd.R_lt (by refine rR ?_; exact (Kd.aM (fR (fR (tR qI mW))) (fun _ h_ => h_.1)))) k_ hk_.1), (Kd.fresh' (Kd.N_lt (by refine rN ?_; exact (Kd.aJ (fN (fN (Kd.aJ lB.1 (fun k_ hk => (⟨hk, hk.2⟩ : _ ∧ k_ ≠ DA))))) (fun _ h_ => h_.1)))) k_ hk_.1), (Kd.uA (g := BM) (o := .cells #[.slice tT y5.length sI, .slice CC E8.length zJ] 31 (0, 0)) a3V k_ hk_.1), (Kd.uA (g := DA) (o := .cells #[.slice z6 GH.length zK, .slice M9 JY.length MH] 31 (0, 0)) (qP mW) k_ hk_.1)⟩)) (aG Yr)); replace kJ := am (Kd.dS (by refine rR ?_; exact (Kd.aM (fR (fR (tR kJ mW))) (fun _ h_ => h_.1))) (Kd.bZ f3) hb); replace lF := am (Kd.aJ (Kd.iP (Kd.iP (Kd.xR (by refine rN ?_; exact (Kd.aJ (fN (fN (Kd.aJ lF.1 (fun k_ hk => (⟨hk, hk.2⟩ : _ ∧ k_ ≠ DA))))) (fun _ h_ => h_.1))) hb) (Kd.bZ f3)) uG) (fun _ h_ => h_.1)); replace r5 := am (Kd.dS (by refine rR ?_; exact (Kd.aM (fR (fR (tR r5 mW))) (fun _ h_ => h_.1))) (Kd.bZ f3) hb); replace qI := am (Kd.dS (by refine rR ?_; exact (Kd.aM (fR (fR (tR qI mW))) (fun _ h_ => h_.1))) (Kd.bZ f3) hb); replace lB := am (Kd.aJ (Kd.iP (Kd.iP (Kd.xR (by refine rN ?_; exact (Kd.aJ (fN (fN (Kd.aJ lB.1 (fun k_ hk => (⟨hk, hk.2⟩ : _ ∧ k_ ≠ DA))))) (fun _ h_ => h_.1))) hb) (Kd.bZ f3)) uG) (fun _ h_ => h_.1)); replace nN := am (bH (g := BM) (o := .cells #[.slice tT y5.length sI, .slice CC E8.length zJ] 31 (0, 0)) a3V hb); replace mW := am (bH (g := DA) (o := .cells #[.slice z6 GH.length zK, .slice M9 JY.length MH] 31 (0, 0)) (qP mW) hb); replace HB := bS Yr hb; clear hb f3 lL) | ((with_reducible refine gD 21 ?_); (try (refine mD (by rfl) ?_; dsimp only)); refine bX 21 #[.slice none 0 0, .slice none 0 0] 31 ?_; intro AM hg a5I hbox hb; replace kJ := RB P0 hb; replace lF := am (Kd.dQ (Kd.iO JQ AM (Nat.le_of_eq hg.symm)) hb); replace r5 := RB P2 hb; replace qI := RB RG hb; replace lB := am (Kd.dQ (Kd.iO RH AM (Nat.le_of_eq hg.symm)) hb); replace wF := RB U9 hb; replace wG := am (Kd.dQ (Kd.iO UA AM (Nat.le_of_eq hg.symm)) hb); have pD := am hbox; have xn := am (aGA : w.heap.size ≤ AM); have Zr := xn; replace HB := bS Yr hb; have VQ := nL IJ hg; have Kx := nG IJ hg; replace nN := bB IJ hb; have VR := nL OW hg; have Ky := nG OW hg; replace mW := bB OW hb; clear hb hbox hg; obtain ⟨y7, yG, qb⟩ := Kd.bP wF.1; subst qb; have aL2 := nZ2 Kx VQ Ky VR; have aL3 := cz2 pD; obtain ⟨EV, F2, qc⟩ := Kd.gM wG.1; subst qc))
         obtain ⟨V9, eW_⟩ := eW2 a5I AM (.slice y7 I5.length yG) (.slice EV MY.length F2)
         rw [← eW_]
         replace kJ : aC (Kd.R Kd.string 9 V9 w.heap.size (fun k_ => some k_ ≠ (.slice xF FC.length vJ : Value).ownBlock ∧ some k_ ≠ (.slice z6 GH.length zK : Value).ownBlock ∧ some k_ ≠ (.slice y7 I5.length yG : Value).ownBlock) (.slice tT y5.length sI) y5) := by rw [eW_]; exact ⟨by refine rR ?_; exact Kd.aM (fR (fR (tR kJ pD))) (fun _ hk => ⟨hk.1.1.1, ⟨hk.1.1.2, hk.1.2⟩⟩)⟩
         replace lF : aC (Kd.N k56 56 V9 w.heap.size (fun k_ => some k_ ≠ (.slice tT y5.length sI : Value).ownBlock ∧ some k_ ≠ (.slice xF FC.length vJ : Value).ownBlock ∧ some k_ ≠ (.slice z6 GH.length zK : Value).ownBlock ∧ some k_ ≠ (.slice M9 JY.length MH : Value).ownBlock ∧ some k_ ≠ (.slice y7 I5.length yG : Value).ownBlock ∧ some k_ ≠ (.slice EV MY.length F2 : Value).ownBlock ∧ k_ ≠ BM ∧ k_ ≠ DA ∧ k_ ≠ AM) (.slice CC E8.length zJ) E8) := by rw [eW_]; exact ⟨by refine rN ?_; exact Kd.aJ (fN (fN (Kd.aJ lF.1 (fun k_ hk => (⟨hk, hk.2⟩ : _ ∧ k_ ≠ AM))))) (fun _ hk => ⟨hk.1.1.1.1.1.1.1.1.1, ⟨hk.1.1.1.1.1.1.1.1.2, ⟨hk.1.1.1.1.1.1.2, ⟨hk.1.1.1.1.1.2, ⟨hk.1.1.1.2, ⟨hk.1.1.2, ⟨hk.1.1.1.1.1.1.1.2, ⟨hk.1.1.1.1.2, hk.1.2⟩⟩⟩⟩⟩⟩⟩⟩)⟩
         replace r5 : aC (Kd.R Kd.string 9 V9 w.heap.size (fun k_ => some k_ ≠ (.slice tT y5.length sI : Value).ownBlock ∧ some k_ ≠ (.slice z6 GH.length zK : Value).ownBlock ∧ some k_ ≠ (.slice y7 I5.length yG : Value).ownBlock) (.slice xF FC.length vJ) FC) := by rw [eW_]; exact ⟨by refine rR ?_; exact Kd.aM (fR (fR (tR r5 pD))) (fun _ hk => ⟨hk.1.1.1, ⟨hk.1.1.2, hk.1.2⟩⟩)⟩
         replace qI : aC (Kd.R Kd.string 9 V9 w.heap.size (fun k_ => some k_ ≠ (.slice tT y5.length sI : Value).ownBlock ∧ some k_ ≠ (.slice xF FC.length vJ : Value).ownBlock ∧ some k_ ≠ (.slice y7 I5.length yG : Value).ownBlock) (.slice z6 GH.length zK) GH) := by rw [eW_]; exact ⟨by refine rR ?_; exact Kd.aM (fR (fR (tR qI pD))) (fun _ hk => ⟨hk.1.1.1.2, ⟨hk.1.1.2, hk.1.2⟩⟩)⟩
         replace lB : aC (Kd.N k56 56 V9 w.heap.size (fun k_ => some k_ ≠ (.slice tT y5.length sI : Value).ownBlock ∧ some k_ ≠ (.slice CC E8.length zJ : Value).ownBlock ∧ some k_ ≠ (.slice xF FC.length vJ : Value).ownBlock ∧ some k_ ≠ (.slice z6 GH.length zK : Value).ownBlock ∧ some k_ ≠ (.slice y7 I5.length yG : Value).ownBlock ∧ some k_ ≠ (.slice EV MY.length F2 : Value).ownBlock ∧ k_ ≠ BM ∧ k_ ≠ DA ∧ k_ ≠ AM) (.slice M9 JY.length MH) JY) := by rw [eW_]; exact ⟨by refine rN ?_; exact Kd.aJ (fN (fN (Kd.aJ lB.1 (fun k_ hk => (⟨hk, hk.2⟩ : _ ∧ k_ ≠ AM))))) (fun _ hk => ⟨hk.1.1.1.1.1.2.1, ⟨hk.1.1.1.1.1.2.2.1, ⟨hk.1.1.1.1.1.2.2.2.1, ⟨hk.1.1.1.1.1.1, ⟨hk.1.1.1.2, ⟨hk.1.1.2, ⟨hk.1.1.1.1.1.2.2.2.2, ⟨hk.1.1.1.1.2, hk.1.2⟩⟩⟩⟩⟩⟩⟩⟩)⟩
         replace wF : aC (Kd.R Kd.string 9 V9 w.heap.size (fun k_ => some k_ ≠ (.slice tT y5.length sI : Value).ownBlock ∧ some k_ ≠ (.slice xF FC.length vJ : Value).ownBlock ∧ some k_ ≠ (.slice z6 GH.length zK : Value).ownBlock) (.slice y7 I5.length yG) I5) := by rw [eW_]; exact ⟨by refine rR ?_; exact Kd.aM (fR (fR (tR wF pD))) (fun _ hk => ⟨hk.1.1.1.2, ⟨hk.1.1.2, hk.1.2⟩⟩)⟩
         replace wG : aC (Kd.N k56 56 V9 w.heap.size (fun k_ => some k_ ≠ (.slice tT y5.length sI : Value).ownBlock ∧ some k_ ≠ (.slice CC E8.length zJ : Value).ownBlock ∧ some k_ ≠ (.slice xF FC.length vJ : Value).ownBlock ∧ some k_ ≠ (.slice z6 GH.length zK : Value).ownBlock ∧ some k_ ≠ (.slice M9 JY.length MH : Value).ownBlock ∧ some k_ ≠ (.slice y7 I5.length yG : Value).ownBlock ∧ k_ ≠ BM ∧ k_ ≠ DA ∧ k_ ≠ AM) (.slice EV MY.length F2) MY) := by rw [eW_]; exact ⟨by refine rN ?_; exact Kd.aJ (fN (fN (Kd.aJ wG.1 (fun k_ hk => (⟨hk, hk.2⟩ : _ ∧ k_ ≠ AM))))) (fun _ hk => ⟨hk.1.1.2.1, ⟨hk.1.1.2.2.1, ⟨hk.1.1.2.2.2.1, ⟨hk.1.1.2.2.2.2.1, ⟨hk.1.1.2.2.2.2.2.1, ⟨hk.1.1.1, ⟨hk.1.1.2.2.2.2.2.2.1, ⟨hk.1.1.2.2.2.2.2.2.2, hk.1.2⟩⟩⟩⟩⟩⟩⟩⟩)⟩
         replace nN := uF2 eW_ nN VQ
         replace mW := uF2 eW_ mW VR
         replace pD := uP2 eW_ pD
         replace HB := uC2 eW_ HB Zr
         clear eW_
         replace kJ := RD kJ
         replace lF := ND lF
         replace r5 := RD r5
         replace qI := RD qI
         replace lB := ND lB
         replace wF := RD wF
         replace wG := ND wG
         replace nN := BD nN
         replace mW := BD mW
         replace pD := BD pD
         replace HB := am (aV HB.1)
        ·refine sT [] 39 (uB2 mW (uB2 pD (uA2 nN))) (fun hHeld => ?_)
         refine eO dB.P9 dB.GZ (fun HT_ HW_ => ?_)
         generalize V9.drew = aWQ at kJ lF r5 qI lB wF wG nN mW pD HB hHeld ⊢
         refine pU4 0 1 2 3 ?_
         refine tK6 4 (some 151) ?_
         refine tK6 5 (some 152) ?_
         refine oN 6 (some 153) fun K hK => ?_
         refine gQ Try.func64 (dK.calls kj77 _ _ GH _ _ JY _ _ I5 _ _ MY true _ (pC (Kd.aU qI.1).2.2) ((Kd.aU qI.1).2.1) (pC (Kd.bL lB.1).2.2) ((Kd.bL lB.1).2.1) (pC (Kd.aU wF.1).2.2) ((Kd.aU wF.1).2.1) (pC (Kd.bL wG.1).2.2) ((Kd.bL wG.1).2.1) gh.out) ?_
         rintro aWR hb
         replace kJ := RB P0 hb
         replace lF := NE JQ hb
         replace r5 := RB P2 hb
         replace qI := RB RG hb
         replace lB := NE RH hb
         replace wF := RB U9 hb
         replace wG := NE UA hb
         replace nN := bB IJ hb
         replace mW := bB OW hb
         replace pD := am (bH (g := AM) (o := .cells #[.slice y7 I5.length yG, .slice EV MY.length F2] 31 (0, 0)) (rB pD.1) hb)
         replace HB := bS ZO hb
         clear hb
         refine nK hK (uB2 mW (uB2 pD (uA2 nN))).1 fun hHeld => ?_
         clear hK K
         refine pU5 7 8 9 10 11 ?_
         refine tK6 12 (some 159) ?_
         refine tK6 14 (some 161) ?_
         refine oN 13 (some 160) fun K hK => ?_
         refine gQ Try.func36 (gF.calls kj77 _ _ GH _ _ JY Tt _ (pC (Kd.aU qI.1).2.2) ((Kd.aU qI.1).2.1) (pC (Kd.bL lB.1).2.2) ((Kd.bL lB.1).2.1) aC1.out) ?_
         rintro aWS hb
         replace kJ := RB P0 hb
         replace lF := NE JQ hb
         replace r5 := RB P2 hb
         replace qI := RB RG hb
         replace lB := NE RH hb
         replace wF := RB U9 hb
         replace wG := NE UA hb
         replace nN := bB IJ hb
         replace mW := bB OW hb
         replace pD := am (bH (g := AM) (o := .cells #[.slice y7 I5.length yG, .slice EV MY.length F2] 31 (0, 0)) (rB pD.1) hb)
         replace HB := bS ZO hb
         clear hb
         refine nK hK (uB2 mW (uB2 pD (uA2 nN))).1 fun hHeld => ?_
         clear hK K
         refine oN 15 (some 162) fun K hK => ?_
         refine gQ Try.func36 (gF.calls kj77 _ _ y5 _ _ E8 Tu _ (pC (Kd.aU kJ.1).2.2) ((Kd.aU kJ.1).2.1) (pC (Kd.bL lF.1).2.2) ((Kd.bL lF.1).2.1) gi.out) ?_
         rintro aWT hb
         replace kJ := RB P0 hb
         replace lF := NE JQ hb
         replace r5 := RB P2 hb
         replace qI := RB RG hb
         replace lB := NE RH hb
         replace wF := RB U9 hb
         replace wG := NE UA hb
         replace nN := bB IJ hb
         replace mW := bB OW hb
         replace pD := am (bH (g := AM) (o := .cells #[.slice y7 I5.length yG, .slice EV MY.length F2] 31 (0, 0)) (rB pD.1) hb)
         replace HB := bS ZO hb
         clear hb
         refine nK hK (uB2 mW (uB2 pD (uA2 nN))).1 fun hHeld => ?_
         clear hK K
         refine pU4 16 17 18 21 ?_
         refine tK6 19 (some 166) ?_
         refine pU1 20 ?_
         refine tK6 22 (some 169) ?_
         refine pU8 23 24 25 26 27 28 29 30 ?_
         refine pU2 31 32 ?_
         refine pV3 33 34 35 ?_
         refine pU3 36 37 38 ?_
         refine dN ?_
         try go_wp2
         go_ret
         exact ⟨eR, ZO⟩
        ·refine sT [] 39 (uB2 mW (uA2 pD)) (fun hHeld => ?_)
         refine eO dB.P9 dB.GZ (fun HT_ HW_ => ?_)
         generalize V9.drew = aWV at kJ lF r5 qI lB wF wG nN mW pD HB hHeld ⊢
         refine pU4 0 1 2 3 ?_
         refine tK4 4 (some 151) ?_
         refine tK4 5 (some 152) ?_
         refine oN 6 (some 153) fun K hK => ?_
         refine gQ Try.func64 (dK.calls kj77 _ _ GH _ _ JY _ _ I5 _ _ MY true _ (pC (Kd.aU qI.1).2.2) ((Kd.aU qI.1).2.1) (pC (Kd.bL lB.1).2.2) ((Kd.bL lB.1).2.1) (pC (Kd.aU wF.1).2.2) ((Kd.aU wF.1).2.1) (pC (Kd.bL wG.1).2.2) ((Kd.bL wG.1).2.1) gh.out) ?_
         rintro aWW hb
         replace kJ := RB P0 hb
         replace lF := NE JQ hb
         replace r5 := RB P2 hb
         replace qI := RB RG hb
         replace lB := NE RH hb
         replace wF := RB U9 hb
         replace wG := NE UA hb
         replace nN := bB IJ hb
         replace mW := bB OW hb
         replace pD := am (bH (g := AM) (o := .cells #[.slice y7 I5.length yG, .slice EV MY.length F2] 31 (0, 0)) (rB pD.1) hb)
         replace HB := bS ZO hb
         clear hb
         refine nK hK (uB2 mW (uA2 pD)).1 fun hHeld => ?_
         clear hK K
         refine pU5 7 8 9 10 11 ?_
         refine pV8 12 13 14 15 16 17 18 19 ?_
         refine pV7 20 21 22 23 24 25 26 ?_
         refine pU6 27 28 29 30 31 32 ?_
         refine pV3 33 34 35 ?_
         refine pU3 36 37 38 ?_
         refine dN ?_
         try go_wp2
         go_ret
         exact ⟨eR, ZO⟩
        ·refine sT [] 39 (uB2 mW (uB2 pD (uA2 nN))) (fun hHeld => ?_)
         refine eO dB.P9 dB.GZ (fun HT_ HW_ => ?_)
         generalize V9.drew = aWX at kJ lF r5 qI lB wF wG nN mW pD HB hHeld ⊢
         refine pU4 0 1 2 3 ?_
         refine tK6 4 (some 151) ?_
         refine tK6 5 (some 152) ?_
         refine oN 6 (some 153) fun K hK => ?_
         refine gQ Try.func64 (dK.calls kj77 _ _ GH _ _ JY _ _ I5 _ _ MY true _ (pC (Kd.aU qI.1).2.2) ((Kd.aU qI.1).2.1) (pC (Kd.bL lB.1).2.2) ((Kd.bL lB.1).2.1) (pC (Kd.aU wF.1).2.2) ((Kd.aU wF.1).2.1) (pC (Kd.bL wG.1).2.2) ((Kd.bL wG.1).2.1) gh.out) ?_
         rintro aWY hb
         replace kJ := RB P0 hb
         replace lF := NE JQ hb
         replace r5 := RB P2 hb
         replace qI := RB RG hb
         replace lB := NE RH hb
         replace wF := RB U9 hb
         replace wG := NE UA hb
         replace nN := bB IJ hb
         replace mW := bB OW hb
         replace pD := am (bH (g := AM) (o := .cells #[.slice y7 I5.length yG, .slice EV MY.length F2] 31 (0, 0)) (rB pD.1) hb)
         replace HB := bS ZO hb
         clear hb
         refine nK hK (uB2 mW (uB2 pD (uA2 nN))).1 fun hHeld => ?_
         clear hK K
         refine pU5 7 8 9 10 11 ?_
         refine pV8 12 13 14 15 16 17 18 19 ?_
         refine pV7 20 21 22 23 24 25 26 ?_
         refine pU6 27 28 29 30 31 32 ?_
         refine tK6 33 (some 180) ?_
         refine tK6 34 (some 181) ?_
         refine oN 35 (some 182) fun K hK => ?_
         refine gQ Try.func64 (dK.calls kj77 _ _ GH _ _ JY _ _ y5 _ _ E8 aGP _ (pC (Kd.aU qI.1).2.2) ((Kd.aU qI.1).2.1) (pC (Kd.bL lB.1).2.2) ((Kd.bL lB.1).2.1) (pC (Kd.aU kJ.1).2.2) ((Kd.aU kJ.1).2.1) (pC (Kd.bL lF.1).2.2) ((Kd.bL lF.1).2.1) aC3.out) ?_
         rintro aWZ hb
         replace kJ := RB P0 hb
         replace lF := NE JQ hb
         replace r5 := RB P2 hb
         replace qI := RB RG hb
         replace lB := NE RH hb
         replace wF := RB U9 hb
         replace wG := NE UA hb
         replace nN := bB IJ hb
         replace mW := bB OW hb
         replace pD := am (bH (g := AM) (o := .cells #[.slice y7 I5.length yG, .slice EV MY.length F2] 31 (0, 0)) (rB pD.1) hb)
         replace HB := bS ZO hb
         clear hb
         refine nK hK (uB2 mW (uB2 pD (uA2 nN))).1 fun hHeld => ?_
         clear hK K
         refine pU3 36 37 38 ?_
         refine dN ?_
         try go_wp2
         go_ret
         exact ⟨eR, ZO⟩
def dB.Pure : Prop := ∀ (l0 : List Int) (l1 : List Int), l0.length ≤ maxLen → l0.length * 1 ≤ 140737488351232 → (∀ x ∈ l0, (Lit.int .u8 x).wf = true) → l1.length ≤ maxLen → l1.length * 1 ≤ 140737488351232 → (∀ x ∈ l1, (Lit.int .u8 x).wf = true) → ∃ k, dB.f k l0 l1 = some true
theorem dB.walk (P : dB.Pure) (a0 : Option Addr) (len0 cap0 : Nat) (z0 : List Int) (a1 : Option Addr) (len1 cap1 : Nat) (z1 : List Int) (w : World) (w0 : (a0 = none ∧ len0 = 0 ∧ cap0 = 0 ∧ z0 = []) ∨ ∃ x, a0 = some x ∧ len0 ≤ cap0 ∧ cap0 ≤ maxLen ∧ z0.length = cap0 ∧ (∀ i, i < z0.length → w.cell? (x.add i) = some (.int .u8 (z0.getD i 0))) ∧ ∀ n ∈ z0, (Lit.int .u8 n).wf = true) (y0 : len0 * 1 ≤ 140737488351232) (w1 : (a1 = none ∧ len1 = 0 ∧ cap1 = 0 ∧ z1 = []) ∨ ∃ x, a1 = some x ∧ len1 ≤ cap1 ∧ cap1 ≤ maxLen ∧ z1.length = cap1 ∧ (∀ i, i < z1.length → w.cell? (x.add i) = some (.int .u8 (z1.getD i 0))) ∧ ∀ n ∈ z1, (Lit.int .u8 n).wf = true) (y1 : len1 * 1 ≤ 140737488351232) :
  Calls Try.prog 20 #[.slice a0 len0 cap0, .slice a1 len1 cap1] w fun e w' => e = .returned (.bool true) ∧ Below w.heap.size w w' := by
 obtain ⟨l0, rfl, sJ, hm0, hw0, yR⟩ := jI.Su w0
 obtain ⟨l1, rfl, FG, hm1, hw1, FF⟩ := jI.Su w1
 obtain ⟨k, h⟩ := P l0 l1 hm0 y0 hw0 hm1 y1 hw1
 refine (dB.calls k _ _ l0 _ _ l1 true w (Kd.vC (d := (0 : Int)) (h1 := fun _ => rfl) sJ) yR (Kd.vC (d := (0 : Int)) (h1 := fun _ => rfl) FG) FF h).mono ?_
 rintro e w' ⟨rfl, hd⟩
 exact ⟨rfl, hd⟩
end Go.Proofs.Ytaofjgnhapnndaa.Q
namespace Go.Proofs.Ytaofjgnhapnndaa.Q
open Go.RowKit Go.Proofs.YtaofjgnhapnndaaW.PrintWords Go.Proofs.YtaofjgnhapnndaaW.PrintLast Go.Proofs.YtaofjgnhapnndaaW.PrintMore
set_option linter.unusedVariables false
set_option linter.unusedSimpArgs false
theorem U4 {α : Type} (f : α → Nat) : ∀ {l : List α} {x : α}, x ∈ l → f x ≤ (l.map f).sum
  | a :: l, x, h => by
    rw [List.map_cons, List.sum_cons]
    rcases List.mem_cons.1 h with rfl | h
    · omega
    · have := U4 f h; omega
def Bz (ts : List ByteArray) (bs : List IB) : Prop := ts.length + iZ bs ≤ 8388608
theorem QF {bs : List IB} {b : IB} (h : b ∈ bs) : 1 + b.f1.length + b.f2.length ≤ iZ bs := by
 unfold iZ; exact U4 (fun b => 1 + b.f1.length + b.f2.length) h
theorem zS : ∀ bs : List IB, bs.length ≤ iZ bs
  | [] => by simp [iZ]
  | b :: r => by have := zS r; rw [sK, List.length_cons]; omega
theorem uC (a b : List IB) : iZ (a ++ b) = iZ a + iZ b := by simp [iZ]
theorem Bz.ts {ts : List ByteArray} {bs : List IB} (h : Bz ts bs) : ts.length ≤ 8388608 := by unfold Bz at h; omega
theorem Bz.bs {ts : List ByteArray} {bs : List IB} (h : Bz ts bs) : bs.length ≤ 8388608 := by have := zS bs; unfold Bz at h; omega
theorem Bz.mem {ts : List ByteArray} {bs : List IB} (h : Bz ts bs) {b : IB} (hb : b ∈ bs) : b.f1.length ≤ 8388608 ∧ b.f2.length ≤ 8388608 := by have := QF hb; unfold Bz at h; omega
theorem Bz.bok {ts : List ByteArray} {bs : List IB} (h : Bz ts bs) : Bok bs := fun b hb => by have := h.mem hb; omega
theorem F5 {bs : List IB} {i : Nat} (h : i < bs.length) : gB bs i ∈ bs := by unfold gB; rw [getD_lt bs _ h]; exact List.getElem_mem h
theorem Bz.at_ {ts : List ByteArray} {bs : List IB} (h : Bz ts bs) {i : Nat} (hi : i < bs.length) : (gB bs i).f1.length ≤ 8388608 ∧ (gB bs i).f2.length ≤ 8388608 := h.mem (F5 hi)
theorem zN (l : List ByteArray) (h : l.length ≤ 8388608) : Ev (fun _ => iK.f l) l := by
 unfold iK.f
 exact Ev.bind (Ev.ret rfl) (Ev.pos (by simp only [List.length_nil]; omega) (Ev.ret rfl))
theorem JH (l : List ByteArray) (h : l.length ≤ 8388608) : Ev (fun _ => dU.f l) l := by
 unfold dU.f
 exact Ev.pos (by omega) (Ev.ret rfl)
theorem Kh {bs : List IB} {i : Nat} (h : i < bs.length) : bs.take i ++ [gB bs i] = bs.take (i + 1) := by
 rw [List.take_succ_eq_append_getElem h]; unfold gB; rw [getD_lt bs _ h]
theorem lX (ts : List ByteArray) (bs : List IB) (h : Bz ts bs) : Ev (fun k => dE.f k ts bs) (ts, bs) := by
 unfold dE.f
 have hl := h.bs
 have go : ∀ (d i : Nat), bs.length - i = d → i ≤ bs.length → Ev (fun k => dE.l0 k (i : Int) ts bs ts (bs.take i)) (ts, bs) := by
  intro d
  induction d with
  | zero =>
   intro i hd hi
   refine Ev.step (fun k => dE.l0.eq_2 _ _ _ _ _ k) (Ev.neg (by omega) (Ev.ret ?_))
   rw [List.take_of_length_le (by omega)]
  | succ d ih =>
   intro i hd hi
   have hlt : i < bs.length := by omega
   refine Ev.step (fun k => dE.l0.eq_2 _ _ _ _ _ k) (Ev.pos (by omega) (Ev.pos (by omega) ?_))
   rw [jF, jZ hlt (by omega)]
   refine Ev.bind (zN _ (h.at_ hlt).1) (Ev.bind (zN _ (h.at_ hlt).2) (Ev.pos (by rw [List.length_take]; omega) ?_))
   have := ih (i + 1) (by omega) (by omega)
   rw [← Kh hlt] at this
   exact this
 exact Ev.bind (zN ts h.ts) (go bs.length 0 (by omega) (by omega))
theorem zM (ts : List ByteArray) (bs : List IB) (h : Bz ts bs) : Ev (fun k => dP.f k ts bs) (ts, bs) := by
 unfold dP.f
 have hl := h.bs
 have go : ∀ (d i : Nat), bs.length - i = d → i ≤ bs.length → Ev (fun k => dP.l0 k bs (bs.length : Int) (i : Int) ts (bs.take i)) (ts, bs) := by
  intro d
  induction d with
  | zero =>
   intro i hd hi
   refine Ev.step (fun k => dP.l0.eq_2 _ _ _ _ _ k) (Ev.neg (by omega) (Ev.ret ?_))
   rw [List.take_of_length_le (by omega)]
  | succ d ih =>
   intro i hd hi
   have hlt : i < bs.length := by omega
   refine Ev.step (fun k => dP.l0.eq_2 _ _ _ _ _ k) (Ev.pos (by omega) (Ev.pos (by omega) (Ev.pos (by omega) ?_)))
   rw [jF, jZ hlt (by omega)]
   refine Ev.bind (JH _ (h.at_ hlt).1) (Ev.bind (JH _ (h.at_ hlt).2) (Ev.pos (by rw [List.length_take]; omega) ?_))
   have := ih (i + 1) (by omega) (by omega)
   rw [← Kh hlt] at this
   exact this
 exact Ev.bind (JH ts h.ts) (go bs.length 0 (by omega) (by omega))
theorem Bz.nil : Bz [] [] := by simp [Bz, iZ]
theorem yX {ts : List ByteArray} {bs : List IB} (h : ts.length + iZ bs ≤ 1048576) : Bz ts bs := by unfold Bz; omega
def atI (bs : List IB) (n : ByteArray) : Int := idxI (fun s => s.toList == n.toList) bs 0
theorem yO (ts : List ByteArray) (bs : List IB) (n : ByteArray) (hl : bs.length ≤ 9223372036854775807) : Ev (fun k => gV.f k ts bs n) (atI bs n) := by
 unfold gV.f atI
 refine Ev.loop (f := fun k i => gV.l0 k n (i : Int) ts bs) (val := fun i => idxI (fun s => s.toList == n.toList) bs i) bs.length ?_ ?_ 0 (by omega)
 ·simp only [Ca]
  exact Ev.step (fun k => gV.l0.eq_2 n _ ts bs k) (Ev.neg (by omega) (Ev.ret rfl))
 intro i hi H
 simp only [WM (fun s => s.toList == n.toList) hi]
 refine Ev.step (fun k => gV.l0.eq_2 n _ ts bs k) (Ev.pos (by omega) (Ev.pos (by omega) ?_))
 rw [jF, jZ hi hl]
 refine Ev.prop (fun h => Ev.ret (by rw [if_pos (beq_iff_eq.mpr h)])) (fun h => Ev.sub H (by rw [if_neg (fun e => h (beq_iff_eq.mp e))]))
def yH (ts : List ByteArray) (bs : List IB) (n : ByteArray) (needs : List ByteArray) : List ByteArray × List IB × Int :=
  if rU ts bs = true then
    (if wI n = true then (if lV needs ts = true then (if 0 ≤ atI bs n then (ts, bs, 3) else if 5 ≤ bs.length then (ts, bs, 4) else (ts, insB bs ⟨n, [], needs⟩, 0)) else (ts, bs, 2)) else (ts, bs, 2))
  else ([], [], 1)
theorem Fg (l : List IB) (x : IB) : iZ (insB l x) = iZ l + (1 + x.f1.length + x.f2.length) := by
 unfold insB
 rw [uC, sK]
 have : iZ l = iZ (l.take (insK l x.f0)) + iZ (l.drop (insK l x.f0)) := by rw [← uC, List.take_append_drop]
 omega
theorem Rj {ts : List ByteArray} {bs : List IB} (n : ByteArray) {needs : List ByteArray} (h : ts.length + iZ bs ≤ 1048576) (hn : needs.length ≤ 1048576) : Bz (yH ts bs n needs).1 (yH ts bs n needs).2.1 := by
 have hi := Fg bs ⟨n, [], needs⟩
 unfold yH
 repeat' split
 all_goals first | exact yX h | exact Bz.nil | (unfold Bz; dsimp only; rw [hi]; simp only [List.length_nil]; omega)
theorem Tx (p : IB → Bool) : ∀ (L : List IB), ∀ a ∈ L.take (L.takeWhile p).length, p a = true
  | [], a, h => by simp at h
  | b :: L, a, h => by
    cases hp : p b with
    | false => rw [List.takeWhile_cons, hp] at h; simp at h
    | true =>
      rw [List.takeWhile_cons, hp, if_pos rfl, List.length_cons, List.take_succ_cons] at h
      rcases List.mem_cons.1 h with rfl | h
      · exact hp
      · exact Tx p L a h
theorem Ki (p : IB → Bool) : ∀ (L : List IB) (h : (L.takeWhile p).length < L.length), p L[(L.takeWhile p).length] = false
  | [], h => by simp at h
  | b :: L, h => by
    cases hp : p b with
    | false =>
      have e : (b :: L).takeWhile p = [] := by rw [List.takeWhile_cons, hp]; rfl
      simp only [e, List.length_nil, List.getElem_cons_zero, hp]
    | true =>
      have e : (b :: L).takeWhile p = b :: L.takeWhile p := by rw [List.takeWhile_cons, hp]; rfl
      simp only [e, List.length_cons, List.getElem_cons_succ]
      rw [e, List.length_cons, List.length_cons] at h
      exact Ki p L (by omega)
theorem NK {a b c : List UInt8} (h1 : Op.bytesLess a b = true) (h2 : Op.bytesLess b c = true) : Op.bytesLess a c = true := by
 rw [bytesLess_eq, decide_eq_true_eq] at *
 exact List.lt_trans h1 h2
theorem Wu {a b : List UInt8} (h1 : Op.bytesLess a b = false) (hne : a ≠ b) : Op.bytesLess b a = true := by
 rw [bytesLess_eq, decide_eq_false_iff_not] at h1
 rw [bytesLess_eq, decide_eq_true_eq]
 by_cases h : b < a
 ·exact h
 exact (hne (List.le_antisymm (List.not_lt.1 h) (List.not_lt.1 h1))).elim
theorem yD {ts : List ByteArray} {bs : List IB} (h : rU ts bs = true) : Asc bs := by
 unfold rU at h
 simp only [Bool.and_eq_true, decide_eq_true_eq] at h
 have hall := (vE _ _ _).1 h.2.2
 have hstep : ∀ i (hi : i + 1 < bs.length), Op.bytesLess (bs[i]'(by omega)).f0.toList bs[i + 1].f0.toList = true := by
  intro i hi
  have q := hall (i + 1) (by omega) hi
  simp only [Bool.and_eq_true] at q
  have q2 := q.1
  unfold vF at q2
  simp only [Bool.and_eq_true, Bool.or_eq_true, decide_eq_true_eq] at q2
  have q3 := q2.2.1
  rcases q3 with q3 | q3
  ·omega
  ·unfold ltB gB at q3
   rw [getD_lt bs _ (show i + 1 - 1 < bs.length by omega), getD_lt bs _ hi] at q3
   exact q3
 unfold Asc
 rw [List.pairwise_iff_getElem]
 have go : ∀ (d i : Nat) (hd : i + d + 1 < bs.length), Op.bytesLess (bs[i]'(by omega)).f0.toList (bs[i + d + 1]'hd).f0.toList = true := by
  intro d
  induction d with
  | zero => intro i hd; exact hstep i hd
  | succ d ih => intro i hd; exact NK (ih i (by omega)) (hstep (i + d + 1) (by omega))
 intro i j hi hj hij
 have := go (j - i - 1) i (by omega)
 simpa only [show i + (j - i - 1) + 1 = j by omega] using this
theorem Ip {bs : List IB} {n : ByteArray} (h : ¬ 0 ≤ atI bs n) : ∀ b ∈ bs, b.f0.toList ≠ n.toList := by
 intro b hb e
 unfold atI idxI at h
 cases hf : D7 (fun i => (fun s => s.toList == n.toList) (gB bs i).f0) bs.length 0 with
 | some i => rw [hf] at h; simp at h
 | none =>
  unfold D7 at hf
  rw [List.find?_eq_none] at hf
  obtain ⟨i, hi, rfl⟩ := List.getElem_of_mem hb
  have q := hf i (by rw [List.mem_range'_1]; omega)
  unfold gB at q
  rw [getD_lt bs _ hi] at q
  simp [e] at q
theorem Cf {bs : List IB} {x : IB} (ha : Asc bs) (hn : ∀ b ∈ bs, b.f0.toList ≠ x.f0.toList) : Asc (insB bs x) := by
 have hpw := List.pairwise_iff_getElem.1 ha
 have hdrop : ∀ b ∈ bs.drop (insK bs x.f0), Op.bytesLess x.f0.toList b.f0.toList = true := by
  intro b hb
  obtain ⟨j, hj, rfl⟩ := List.getElem_of_mem hb
  rw [List.length_drop] at hj
  rw [List.getElem_drop]
  have hk : insK bs x.f0 < bs.length := by omega
  have hs : Op.bytesLess (bs[insK bs x.f0]'hk).f0.toList x.f0.toList = false := Ki _ bs hk
  have h1 := Wu hs (hn _ (List.getElem_mem hk))
  by_cases h0 : j = 0
  ·subst h0; exact h1
  ·exact NK h1 (hpw _ _ hk (by omega) (by omega))
 have htake : ∀ a ∈ bs.take (insK bs x.f0), Op.bytesLess a.f0.toList x.f0.toList = true := fun a h => Tx (fun b => Op.bytesLess b.f0.toList x.f0.toList) bs a h
 unfold insB Asc
 rw [List.pairwise_append]
 refine ⟨List.Pairwise.sublist (List.take_sublist _ _) ha, List.pairwise_cons.2 ⟨hdrop, List.Pairwise.sublist (List.drop_sublist _ _) ha⟩, fun a h1 b h2 => ?_⟩
 rcases List.mem_cons.1 h2 with rfl | h2
 ·exact htake a h1
 exact NK (htake a h1) (hdrop b h2)
def kfrom (bs : List IB) (n : ByteArray) (i : Nat) : Nat := i + ((bs.drop i).takeWhile fun b => Op.bytesLess b.f0.toList n.toList).length
theorem Lu (bs : List IB) (n : ByteArray) : kfrom bs n bs.length = bs.length := by simp [kfrom]
theorem Fh {bs : List IB} {n : ByteArray} {i : Nat} (hi : i < bs.length) : kfrom bs n i = if Op.bytesLess (gB bs i).f0.toList n.toList = true then kfrom bs n (i + 1) else i := by
 have e : gB bs i = bs[i] := by unfold gB; rw [getD_lt bs _ hi]
 unfold kfrom
 rw [List.drop_eq_getElem_cons hi, List.takeWhile_cons, e]
 cases hp : Op.bytesLess bs[i].f0.toList n.toList with
 | true => rw [if_pos rfl, if_pos rfl, List.length_cons]; omega
 | false => rw [if_neg (by simp), if_neg (by simp), List.length_nil]; omega
theorem Ex (ts : List ByteArray) (bs : List IB) (n : ByteArray) (needs : List ByteArray) (h : ts.length + iZ bs ≤ 1048576) (hn : needs.length ≤ 1048576) : Ev (fun k => cK.l0 k n needs 0 ts bs) (ts, insB bs ⟨n, [], needs⟩, 0) := by
 have hz := yX h
 have hl := hz.bs
 have hw := Fg bs ⟨n, [], needs⟩
 have hcopy : Ev (fun k => dE.f k ts (insB bs ⟨n, [], needs⟩)) (ts, insB bs ⟨n, [], needs⟩) := lX ts _ (by unfold Bz; rw [hw]; simp only [List.length_nil]; omega)
 have hend : ∀ i, i ≤ bs.length → kfrom bs n i = i → kfrom bs n 0 = i → bs.take i ++ [(⟨n, [], needs⟩ : IB)] ++ bs.drop i = insB bs ⟨n, [], needs⟩ := by
  intro i hi _ h0
  have e : insK bs n = i := by rw [← h0]; unfold kfrom insK; rw [List.drop_zero, Nat.zero_add]
  unfold insB
  rw [show insK bs (⟨n, [], needs⟩ : IB).f0 = i from e, List.append_assoc]; rfl
 have go : ∀ (d i : Nat), bs.length - i = d → i ≤ bs.length → kfrom bs n i = kfrom bs n 0 → Ev (fun k => cK.l0 k n needs (i : Int) ts bs) (ts, insB bs ⟨n, [], needs⟩, 0) := by
  intro d
  induction d with
  | zero =>
   intro i hd hi hk
   have hie : i = bs.length := by omega
   have hke : kfrom bs n i = i := by rw [hie]; exact Lu bs n
   have he := hend i hi hke (by rw [← hk]; exact hke)
   refine Ev.step (fun k => cK.l0.eq_2 _ _ _ _ _ k) (Ev.neg (by omega) ?_)
   refine Ev.bind (Ev.ret rfl) (Ev.pos (by omega) (Ev.pos (by omega) (Ev.bind (Ev.ret rfl) ?_)))
   rw [Int.toNat_natCast]
   refine Ev.pos (by simp only [List.length_nil, List.length_take]; omega) (Ev.bind (Ev.ret rfl) (Ev.bind (zN needs (by omega)) ?_))
   refine Ev.pos (by simp only [List.nil_append, List.length_take]; omega) (Ev.bind (Ev.ret rfl) (Ev.bind (Ev.ret rfl) (Ev.pos (by simp only [List.nil_append, List.length_append, List.length_take, List.length_drop, List.length_cons, List.length_nil]; omega) ?_)))
   rw [List.nil_append, he]
   exact Ev.bind hcopy (Ev.ret rfl)
  | succ d ih =>
   intro i hd hi hk
   have hlt : i < bs.length := by omega
   have hs := Fh (n := n) hlt
   refine Ev.step (fun k => cK.l0.eq_2 _ _ _ _ _ k) (Ev.pos (by omega) (Ev.pos (by omega) ?_))
   rw [jF, jZ hlt (by omega)]
   refine Ev.prop (fun hp => ?_) (fun hp => ?_)
   ·rw [if_pos hp] at hs
    exact ih (i + 1) (by omega) (by omega) (by rw [← hs]; exact hk)
   ·rw [if_neg hp] at hs
    have he := hend i hi hs (by rw [← hk]; exact hs)
    refine Ev.bind (Ev.ret rfl) (Ev.pos (by omega) (Ev.bind (Ev.ret rfl) ?_))
    rw [Int.toNat_natCast]
    refine Ev.pos (by simp only [List.length_nil, List.length_take]; omega) (Ev.bind (Ev.ret rfl) (Ev.bind (zN needs (by omega)) ?_))
    refine Ev.pos (by simp only [List.nil_append, List.length_take]; omega) (Ev.bind (Ev.ret rfl) (Ev.bind (Ev.ret rfl) (Ev.pos (by simp only [List.nil_append, List.length_append, List.length_take, List.length_drop, List.length_cons, List.length_nil]; omega) ?_)))
    rw [List.nil_append, he]
    exact Ev.bind hcopy (Ev.ret rfl)
 exact go bs.length 0 (by omega) (by omega) rfl
theorem Bq (ts : List ByteArray) (bs : List IB) (n : ByteArray) (needs : List ByteArray) (b : Bool) (h : ts.length + iZ bs ≤ 1048576) (hn : needs.length ≤ 1048576) : Ev (fun k => cK.j0 k n needs b ts bs ts bs) (if b = true then (ts, bs, 2) else if 0 ≤ atI bs n then (ts, bs, 3) else if 5 ≤ bs.length then (ts, bs, 4) else (ts, insB bs ⟨n, [], needs⟩, 0)) := by
 have hz := yX h
 have hl := hz.bs
 refine Ev.step (fun k => cK.j0.eq_2 _ _ _ _ _ _ _ k) (Ev.test b (fun hb => Ev.ret (by rw [if_pos hb])) (fun hb => ?_))
 rw [if_neg (by simp [hb])]
 refine Ev.bind (yO ts bs n (by omega)) (Ev.prop (fun hc => Ev.ret (by rw [if_pos hc])) (fun hc => ?_))
 rw [if_neg hc]
 refine Ev.prop (fun h5 => Ev.ret (by rw [if_pos (by omega)])) (fun h5 => ?_)
 rw [if_neg (by omega)]
 exact Ex ts bs n needs h hn
theorem DT (ts : List ByteArray) (bs : List IB) (n : ByteArray) (needs : List ByteArray) (h : ts.length + iZ bs ≤ 1048576) (hn : needs.length ≤ 1048576) : Ev (fun k => cK.f k ts bs n needs) (yH ts bs n needs) := by
 have hz := yX h
 have hl := hz.bs
 have ht := hz.ts
 unfold cK.f yH
 refine Ev.bind (pJ ts bs (by omega) (by omega) hz.bok) (Ev.test _ (fun hb => ?_) (fun hb => Ev.ret (by simp [hb])))
 rw [if_pos hb]
 refine Ev.bind (lX ts bs hz) (Ev.bind (wC n) ?_)
 dsimp only
 refine Ev.test _ (fun hnm => ?_) (fun hnm => ?_)
 ·rw [if_pos hnm]
  refine Ev.bind (sD needs ts (by omega) (by omega)) ?_
  refine Ev.sub (Bq ts bs n needs _ h hn) ?_
  cases lV needs ts <;> rfl
 exact Ev.sub (Bq ts bs n needs true h hn) (by simp [hnm])
theorem Ev.posI {α : Type} {c : Prop} {inst : Decidable c} {a b : Nat → Option α} {r : α} (h : c) (H : Ev a r) : Ev (fun k => @ite _ c inst (a k) (b k)) r := Ev.pos h H
theorem MN (ts : List ByteArray) (bs : List IB) (n : ByteArray) (needs : List ByteArray) (h : ts.length + iZ bs ≤ 1048576) (hn : needs.length ≤ 1048576) : Ev (fun k => oW.f k ts bs n needs) (yH ts bs n needs) := by
 have hz := yX h
 have hl := hz.bs
 have ht := hz.ts
 unfold oW.f yH
 refine Ev.bind (sS ts bs (by omega) (by omega) hz.bok) (Ev.test _ (fun hb => ?_) (fun hb => Ev.ret (by simp [hb])))
 rw [if_pos hb]
 have h5 := KH hb
 refine Ev.bind (zM ts bs hz) (Ev.bind (Kb n) ?_)
 dsimp only
 refine Ev.test _ (fun hnm => ?_) (fun hnm => Ev.ret (by simp [hnm]))
 rw [if_pos hnm]
 refine Ev.bind (DD needs ts (by omega) (by omega)) (Ev.test _ (fun hq => ?_) (fun hq => Ev.ret (by simp [hq])))
 rw [if_pos hq]
 refine Ev.bind (Ev.ret (s := atI bs n) rfl) (Ev.prop (fun hc => Ev.ret (by rw [if_pos hc])) (fun hc => ?_))
 rw [if_neg hc]
 refine Ev.prop (fun h6 => Ev.ret (by rw [if_pos (by omega)])) (fun h6 => ?_)
 rw [if_neg (by omega)]
 refine Ev.bind (JH needs (by omega)) (Ev.posI ⟨by omega, Cf (yD hb) (Ip hc)⟩ (Ev.ret rfl))
end Go.Proofs.Ytaofjgnhapnndaa.Q
