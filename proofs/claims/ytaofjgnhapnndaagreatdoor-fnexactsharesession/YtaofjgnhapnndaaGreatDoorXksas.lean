/- Texts that the row needs: words on memory and rows, the contracts of the functions it reaches, and the plain lemmas on what they compute. -/
import Derived.Test.YtaofjgnhapnndaaGreatDoorXksar
open Go.Proofs.YtaofjgnhapnndaaGreatDoorFks
namespace Go.Proofs.YtaofjgnhapnndaaGreatDoor.Q
open Go.RowKit Go.Proofs.YtaofjgnhapnndaaGreatDoorW.PrintWords Go.Proofs.YtaofjgnhapnndaaGreatDoorW.PrintLast Go.Proofs.YtaofjgnhapnndaaGreatDoorW.PrintMore
set_option linter.unusedVariables false
set_option linter.unusedSimpArgs false
open Go.Shelf Go.Lib
set_option maxHeartbeats 4000000 in
set_option maxRecDepth 100000 in
theorem XA {P : Nat → Prop} {l0 : List ByteArray} {l1 : List MB} {ws : List ByteArray} {v0 v1 : Value} {b c : Nat} {w : World} (hV : jW P w v0 v1 l0 l1) (hP : ∀ k, w.heap.size ≤ k → P k) (hW : WsAt w b c ws) (hn0 : 0 < ws.length) (hbd : Bd l0 l1) (t_things : IsW ws [116, 104, 105, 110, 103, 115] false) (t_enter : IsW ws [101, 110, 116, 101, 114] false) (t_ask : IsW ws [97, 115, 107] false) (t_less : IsW ws [108, 101, 115, 115] false) (t_leave : IsW ws [108, 101, 97, 118, 101] false) (t_show : IsW ws [115, 104, 111, 119] false) (t_order : IsW ws [111, 114, 100, 101, 114] false) (t_moves : IsW ws [109, 111, 118, 101, 115] false) (t_waits : IsW ws [119, 97, 105, 116, 115] true) (m1 : ((ws.length : Int) == 2) = true) (m2 : decide (ws.length = 2) = true) (hl : 1 < ws.length) (hf : Few (mD l0 l1 (gS ws 1)))  :
  Calls Tryz.prog 9 #[.agg #[v0, v1], .slice (some ⟨b, 0, none⟩) ws.length c] w (qG P w l0 l1 (oC (mD l0 l1 (gS ws 1)))) := by
 unfold IsW at t_things t_enter t_ask t_less t_leave t_show t_order t_moves t_waits
 have HBD := am hbd
 clear hbd
 have HN1 := am hl
 obtain ⟨n1, n1', q1, q1'⟩ := AB hl
 clear hl
 have HFW := am hf
 clear hf
 obtain ⟨A0, c0, A1, c1, rfl, rfl⟩ := hV.slices
 obtain ⟨HV, HP, HW, HN0⟩ := as4 hV hP hW hn0
 obtain ⟨n0, n0', q0, q0'⟩ := oP hn0
 clear hV hP hW hn0
 have hu31 := Tryz.underlying31
 have hu27 := Tryz.underlying27
 go_enter Tryz.func9, Tryz.ntmps9
 try go_wp2_with (first | ((with_reducible refine dF (N := 2) rfl ?_); (refine dX ?hg (N := 2) ?hd (cs := #[.slice A0 l0.length c0, .slice A1 l1.length c1]) (t := 31) ?hr ?_; (case hd => rfl); (case hg => rfl); (case hr => first | (go_simp; done) | (go_simp; rfl)); intro g2 hg2 w1 hbox hb; obtain ⟨HG2, HB1, XO⟩ := bx2 hg2 hbox hb; clear hbox hb hg2)) | ((with_reducible refine dF (N := 4) rfl ?_); (refine dX ?hg (N := 4) ?hd (cs := #[.slice none 0 0, .slice none 0 0]) (t := 31) ?hr ?_; (case hd => rfl); (case hg => rfl); (case hr => first | (go_simp; done) | (go_simp; rfl)); intro g4 hg4 w2 hbox hb; obtain ⟨HG2n, HG4, HB, HW2, NE, NB, uQ, a0, a1, a2, a3, a4, a5, a6⟩ := bx4 hg4 hbox hb HG2 HB1 HW HN0; clear HG2 HB1 hbox hb hg4; have HG2 := HG2n; clear HG2n)))
 obtain ⟨HG2d, HG4d, HWd, HBd⟩ := st4 HG2 HG4 HW2 HB (w3 := w2.drew) (aU (Below.refl _ _))
 (try clear a0 a1 a2 a3 a4 a5 a6)
 refine sT (S := fun w' => w'.cell? ⟨g2, 0, none⟩ = some (.slice A0 l0.length c0) ∧ w'.cell? ⟨g2, 1, none⟩ = some (.slice A1 l1.length c1) ∧ w'.cell? ⟨b, 1, none⟩ = some (.string (gS ws 1))) [] 9 ⟨⟨(aH HG2d.out 0).trans rfl, (aH HG2d.out 1).trans rfl, HWd.out.cell 1 HN1.out⟩⟩ (fun hHeld => ?_)
 generalize w2.drew = w3 at HG2d HG4d HWd HBd hHeld ⊢
 refine tK3_ 0 (some 162) ?_
 refine tK3_ 1 (some 163) ?_
 refine pU0 2 (some 164) ?_
 refine pU0 3 (some 165) ?_
 refine tK3_ 4 (some 166) ?_
 refine oM 5 (some 167) fun K hK => ?_
 refine kF Tryz.func32 (by kernel_rfl) rfl #[.agg #[.slice A0 l0.length c0, .slice A1 l1.length c1], .string (gS ws 1)] (by rfl) rfl rfl n7 ?_
 have RD := am (HV.out.below HBd.out).reads
 refine (Eu HBD.out (gS ws 1) RD.out.1.1 RD.out.1.2 RD.out.2.1 RD.out.2.2).mono ?_
 rintro e_ w4 ⟨v, rfl, hr, hb⟩
 obtain ⟨AL, cL, rfl⟩ := Kd.cB hr
 have HRL := am (Kd.bI hr).2.2
 have HCL := am (Kd.bI hr).2.1
 obtain ⟨HG2x, HG4x, HWx, HBx⟩ := st4 HG2d HG4d HWd HBd hb
 clear hb hr
 refine ⟨_, rfl, ?_⟩
 refine hK.out _ _ ⟨(aH HG2x.out 0).trans rfl, (aH HG2x.out 1).trans rfl, HWx.out.cell 1 HN1.out⟩ (fun hHeld => ?_)
 clear hK K
 refine nM ?_
 refine oM 6 (some 168) fun K hK => ?_
 refine kF Tryz.func30 (by kernel_rfl) rfl #[.slice AL (mD l0 l1 (gS ws 1)).length cL] (by rfl) rfl rfl n7 ?_
 refine (BU HFW.out HRL.1 HCL.1).mono ?_
 rintro e_ w5 ⟨rfl, hb⟩
 obtain ⟨HG2y, HG4y, HWy, HBy⟩ := st4 HG2x HG4x HWx HBx hb
 clear hb
 refine ⟨_, rfl, ?_⟩
 refine hK.out _ _ ⟨(aH HG2y.out 0).trans rfl, (aH HG2y.out 1).trans rfl, HWy.out.cell 1 HN1.out⟩ (fun hHeld => ?_)
 clear hK K
 refine nM ?_
 refine oM 7 none fun K hK => ?_
 obtain ⟨e0, e1, e2, e3, hq1, hq2, hq3, hq4⟩ := sf4 HG4y NE NB
 refine qJ (w1 := ?_) (by rfl) rfl ?_ ?_
 rotate_left
 ·go_simp
  rfl
 refine hK.out _ _ ⟨(cell_far (p := ⟨g4, _, none⟩) NE.out _).trans ((cell_far (p := ⟨g4, _, none⟩) NE.out _).trans (hHeld.1)), (cell_far (p := ⟨g4, _, none⟩) NE.out _).trans ((cell_far (p := ⟨g4, _, none⟩) NE.out _).trans (hHeld.2.1)), (cell_far (p := ⟨g4, _, none⟩) NB.out _).trans ((cell_far (p := ⟨g4, _, none⟩) NB.out _).trans (hHeld.2.2))⟩ (fun hHeld => ?_)
 clear hK K
 refine pU0 8 (some 5) ?_
 refine qO (by kernel_rfl) ?_
 try go_wp2
 (try simp only [Exit.inBlock, Exit.then])
 refine cT g4 31 #[.slice A0 l0.length c0, .slice A1 l1.length c1] (bD (cs := #[.slice A0 l0.length c0, .slice none 0 0]) (bD (cs := #[.slice none 0 0, .slice none 0 0]) HG4y.out 0 _ rfl) 1 _ rfl) Tryz.underlying31 ?_
 exact ⟨_, _, rfl, oldV HV.out HBy.out uQ.1, aJ (aJ HBy.out uQ.1) uQ.1⟩
set_option maxHeartbeats 4000000 in
set_option maxRecDepth 100000 in
theorem Ep {P : Nat → Prop} {l0 : List ByteArray} {l1 : List MB} {ws : List ByteArray} {v0 v1 : Value} {b c : Nat} {w : World} (hV : jW P w v0 v1 l0 l1) (hP : ∀ k, w.heap.size ≤ k → P k) (hW : WsAt w b c ws) (hn0 : 0 < ws.length) (hbd : Bd l0 l1) (t_things : IsW ws [116, 104, 105, 110, 103, 115] false) (t_enter : IsW ws [101, 110, 116, 101, 114] false) (t_ask : IsW ws [97, 115, 107] false) (t_less : IsW ws [108, 101, 115, 115] false) (t_leave : IsW ws [108, 101, 97, 118, 101] false) (t_show : IsW ws [115, 104, 111, 119] false) (t_order : IsW ws [111, 114, 100, 101, 114] false) (t_moves : IsW ws [109, 111, 118, 101, 115] false) (t_waits : IsW ws [119, 97, 105, 116, 115] false) (t_who : IsW ws [119, 104, 111] true) (m1 : ((ws.length : Int) == 2) = true) (m2 : decide (ws.length = 2) = true) (hl : 1 < ws.length) (hf : Few [(whoB l0 l1 (gS ws 1))])  :
  Calls Tryz.prog 9 #[.agg #[v0, v1], .slice (some ⟨b, 0, none⟩) ws.length c] w (qG P w l0 l1 (oC [(whoB l0 l1 (gS ws 1))])) := by
 unfold IsW at t_things t_enter t_ask t_less t_leave t_show t_order t_moves t_waits t_who
 have HBD := am hbd
 clear hbd
 have HN1 := am hl
 obtain ⟨n1, n1', q1, q1'⟩ := AB hl
 clear hl
 have HFW := am hf
 clear hf
 obtain ⟨A0, c0, A1, c1, rfl, rfl⟩ := hV.slices
 obtain ⟨HV, HP, HW, HN0⟩ := as4 hV hP hW hn0
 obtain ⟨n0, n0', q0, q0'⟩ := oP hn0
 clear hV hP hW hn0
 have hu31 := Tryz.underlying31
 have hu27 := Tryz.underlying27
 go_enter Tryz.func9, Tryz.ntmps9
 try go_wp2_with (first | ((with_reducible refine dF (N := 2) rfl ?_); (refine dX ?hg (N := 2) ?hd (cs := #[.slice A0 l0.length c0, .slice A1 l1.length c1]) (t := 31) ?hr ?_; (case hd => rfl); (case hg => rfl); (case hr => first | (go_simp; done) | (go_simp; rfl)); intro g2 hg2 w1 hbox hb; obtain ⟨HG2, HB1, XO⟩ := bx2 hg2 hbox hb; clear hbox hb hg2)) | ((with_reducible refine dF (N := 4) rfl ?_); (refine dX ?hg (N := 4) ?hd (cs := #[.slice none 0 0, .slice none 0 0]) (t := 31) ?hr ?_; (case hd => rfl); (case hg => rfl); (case hr => first | (go_simp; done) | (go_simp; rfl)); intro g4 hg4 w2 hbox hb; obtain ⟨HG2n, HG4, HB, HW2, NE, NB, uQ, a0, a1, a2, a3, a4, a5, a6⟩ := bx4 hg4 hbox hb HG2 HB1 HW HN0; clear HG2 HB1 hbox hb hg4; have HG2 := HG2n; clear HG2n)))
 obtain ⟨HG2d, HG4d, HWd, HBd⟩ := st4 HG2 HG4 HW2 HB (w3 := w2.drew) (aU (Below.refl _ _))
 (try clear a0 a1 a2 a3 a4 a5 a6)
 refine sT (S := fun w' => w'.cell? ⟨g2, 0, none⟩ = some (.slice A0 l0.length c0) ∧ w'.cell? ⟨g2, 1, none⟩ = some (.slice A1 l1.length c1) ∧ w'.cell? ⟨b, 1, none⟩ = some (.string (gS ws 1))) [] 10 ⟨⟨(aH HG2d.out 0).trans rfl, (aH HG2d.out 1).trans rfl, HWd.out.cell 1 HN1.out⟩⟩ (fun hHeld => ?_)
 generalize w2.drew = w3 at HG2d HG4d HWd HBd hHeld ⊢
 refine tK3_ 0 (some 178) ?_
 refine tK3_ 1 (some 179) ?_
 refine pU0 2 (some 180) ?_
 refine pU0 3 (some 181) ?_
 refine tK3_ 4 (some 182) ?_
 refine oM 5 (some 183) fun K hK => ?_
 refine kF Tryz.func33 (by kernel_rfl) rfl #[.agg #[.slice A0 l0.length c0, .slice A1 l1.length c1], .string (gS ws 1)] (by rfl) rfl rfl n7 ?_
 have RD := am (HV.out.below HBd.out).reads
 refine (La HBD.out (gS ws 1) RD.out.1.1 RD.out.1.2 RD.out.2.1 RD.out.2.2).mono ?_
 rintro e_ w4 ⟨rfl, hb⟩
 obtain ⟨HG2x, HG4x, HWx, HBx⟩ := st4 HG2d HG4d HWd HBd hb
 clear hb
 refine ⟨_, rfl, ?_⟩
 refine hK.out _ _ ⟨(aH HG2x.out 0).trans rfl, (aH HG2x.out 1).trans rfl, HWx.out.cell 1 HN1.out⟩ (fun hHeld => ?_)
 clear hK K
 refine nM ?_
 refine oM 6 (some 184) fun K hK => ?_
 refine Kd.FL Kd.string _ 9 ?hg (N := 184) ?hd (xs := ([(whoB l0 l1 (gS ws 1))] : List ByteArray)) (inner := [.string (whoB l0 l1 (gS ws 1))]) (ok := fun _ => True) (okp := fun _ => True) ?hr ?hp (fun _ hk => hk) trivial (Below.refl _ _) (Nat.le_refl _) (by simp) ?_
 (case hd => rfl)
 (case hg => rfl)
 (case hr => first | (go_simp; done) | (go_simp; rfl))
 (case hp => exact (Reps.one (show Kd.M Kd.string _ _ _ (whoB l0 l1 (gS ws 1)) [.string (whoB l0 l1 (gS ws 1))] from rfl) (Reps.none _ _)))
 intro v w5 hr hb hg_ hnew_
 obtain ⟨AL, cL, rfl⟩ := Kd.cB hr
 have HRL := am (Kd.bI hr).2.2
 have HCL := am (Kd.bI hr).2.1
 obtain ⟨HG2y, HG4y, HWy, HBy⟩ := st4 HG2x HG4x HWx HBx hb
 clear hb hr hg_ hnew_
 refine hK.out _ _ ⟨(aH HG2y.out 0).trans rfl, (aH HG2y.out 1).trans rfl, HWy.out.cell 1 HN1.out⟩ (fun hHeld => ?_)
 clear hK K
 refine nM ?_
 refine oM 7 (some 185) fun K hK => ?_
 refine kF Tryz.func30 (by kernel_rfl) rfl #[.slice AL ([(whoB l0 l1 (gS ws 1))] : List ByteArray).length cL] (by rfl) rfl rfl n7 ?_
 refine (BU HFW.out HRL.1 HCL.1).mono ?_
 rintro e_ w6 ⟨rfl, hb⟩
 obtain ⟨HG2z, HG4z, HWz, HBz⟩ := st4 HG2y HG4y HWy HBy hb
 clear hb
 refine ⟨_, rfl, ?_⟩
 refine hK.out _ _ ⟨(aH HG2z.out 0).trans rfl, (aH HG2z.out 1).trans rfl, HWz.out.cell 1 HN1.out⟩ (fun hHeld => ?_)
 clear hK K
 refine nM ?_
 refine oM 8 none fun K hK => ?_
 obtain ⟨e0, e1, e2, e3, hq1, hq2, hq3, hq4⟩ := sf4 HG4z NE NB
 refine qJ (w1 := ?_) (by rfl) rfl ?_ ?_
 rotate_left
 ·go_simp
  rfl
 refine hK.out _ _ ⟨(cell_far (p := ⟨g4, _, none⟩) NE.out _).trans ((cell_far (p := ⟨g4, _, none⟩) NE.out _).trans (hHeld.1)), (cell_far (p := ⟨g4, _, none⟩) NE.out _).trans ((cell_far (p := ⟨g4, _, none⟩) NE.out _).trans (hHeld.2.1)), (cell_far (p := ⟨g4, _, none⟩) NB.out _).trans ((cell_far (p := ⟨g4, _, none⟩) NB.out _).trans (hHeld.2.2))⟩ (fun hHeld => ?_)
 clear hK K
 refine pU0 9 (some 5) ?_
 refine qO (by kernel_rfl) ?_
 try go_wp2
 (try simp only [Exit.inBlock, Exit.then])
 refine cT g4 31 #[.slice A0 l0.length c0, .slice A1 l1.length c1] (bD (cs := #[.slice A0 l0.length c0, .slice none 0 0]) (bD (cs := #[.slice none 0 0, .slice none 0 0]) HG4z.out 0 _ rfl) 1 _ rfl) Tryz.underlying31 ?_
 exact ⟨_, _, rfl, oldV HV.out HBz.out uQ.1, aJ (aJ HBz.out uQ.1) uQ.1⟩
theorem sZ {P : Nat → Prop} {l0 : List ByteArray} {l1 : List MB} {ws : List ByteArray} {v0 v1 : Value} {b c : Nat} {w : World} (hV : jW P w v0 v1 l0 l1) (hP : ∀ k, w.heap.size ≤ k → P k) (hW : WsAt w b c ws) (hn0 : 0 < ws.length) (hlen : ws.length ≤ 8001) (hbd : Bd l0 l1) :
  Calls Tryz.prog 9 #[.agg #[v0, v1], .slice (some ⟨b, 0, none⟩) ws.length c] w (qG P w (eG l0 l1 ws).1 (eG l0 l1 ws).2.1 (eG l0 l1 ws).2.2) := by
 have ht : ∀ m, (ws.drop m).length ≤ 1048576 := fun m => by rw [List.length_drop]; omega
 by_cases k_things : (gS ws 0).toList = ([116, 104, 105, 110, 103, 115] : List UInt8)
 ·have t_things : ((gS ws 0).toList == ([116, 104, 105, 110, 103, 115] : List UInt8)) = true := beq_iff_eq.2 k_things
  have t_enter : ((gS ws 0).toList == ([101, 110, 116, 101, 114] : List UInt8)) = false := by rw [k_things]; decide
  have t_ask : ((gS ws 0).toList == ([97, 115, 107] : List UInt8)) = false := by rw [k_things]; decide
  have t_less : ((gS ws 0).toList == ([108, 101, 115, 115] : List UInt8)) = false := by rw [k_things]; decide
  have t_leave : ((gS ws 0).toList == ([108, 101, 97, 118, 101] : List UInt8)) = false := by rw [k_things]; decide
  have t_show : ((gS ws 0).toList == ([115, 104, 111, 119] : List UInt8)) = false := by rw [k_things]; decide
  have t_order : ((gS ws 0).toList == ([111, 114, 100, 101, 114] : List UInt8)) = false := by rw [k_things]; decide
  have t_moves : ((gS ws 0).toList == ([109, 111, 118, 101, 115] : List UInt8)) = false := by rw [k_things]; decide
  have t_waits : ((gS ws 0).toList == ([119, 97, 105, 116, 115] : List UInt8)) = false := by rw [k_things]; decide
  have t_who : ((gS ws 0).toList == ([119, 104, 111] : List UInt8)) = false := by rw [k_things]; decide
  by_cases ho : iY (ws.drop 1) [] = true
  ·rw [show eG l0 l1 ws = (ws.drop 1, [], (⟨#[111, 107]⟩ : ByteArray)) from by simp only [eG, t_things, t_enter, t_ask, t_less, t_leave, t_show, t_order, t_moves, t_waits, t_who, ho, ↓reduceIte]]
   exact UQ hV hP hW hn0 (ht 1) t_things ho
  rw [show eG l0 l1 ws = (l0, l1, (⟨#[110, 111]⟩ : ByteArray)) from by simp only [eG, t_things, t_enter, t_ask, t_less, t_leave, t_show, t_order, t_moves, t_waits, t_who, Bool.eq_false_iff.mpr ho, ↓reduceIte, Bool.false_eq_true]]
  exact LV hV hP hW hn0 (ht 1) t_things (by simpa using ho)
 by_cases k_enter : (gS ws 0).toList = ([101, 110, 116, 101, 114] : List UInt8)
 ·have t_things : ((gS ws 0).toList == ([116, 104, 105, 110, 103, 115] : List UInt8)) = false := by rw [k_enter]; decide
  have t_enter : ((gS ws 0).toList == ([101, 110, 116, 101, 114] : List UInt8)) = true := beq_iff_eq.2 k_enter
  have t_ask : ((gS ws 0).toList == ([97, 115, 107] : List UInt8)) = false := by rw [k_enter]; decide
  have t_less : ((gS ws 0).toList == ([108, 101, 115, 115] : List UInt8)) = false := by rw [k_enter]; decide
  have t_leave : ((gS ws 0).toList == ([108, 101, 97, 118, 101] : List UInt8)) = false := by rw [k_enter]; decide
  have t_show : ((gS ws 0).toList == ([115, 104, 111, 119] : List UInt8)) = false := by rw [k_enter]; decide
  have t_order : ((gS ws 0).toList == ([111, 114, 100, 101, 114] : List UInt8)) = false := by rw [k_enter]; decide
  have t_moves : ((gS ws 0).toList == ([109, 111, 118, 101, 115] : List UInt8)) = false := by rw [k_enter]; decide
  have t_waits : ((gS ws 0).toList == ([119, 97, 105, 116, 115] : List UInt8)) = false := by rw [k_enter]; decide
  have t_who : ((gS ws 0).toList == ([119, 104, 111] : List UInt8)) = false := by rw [k_enter]; decide
  by_cases hl : 1 < ws.length
  ·rw [show eG l0 l1 ws = ((jL l0 l1 (gS ws 1) (ws.drop 2)).1, (jL l0 l1 (gS ws 1) (ws.drop 2)).2.1, nR (jL l0 l1 (gS ws 1) (ws.drop 2)).2.2) from by simp [eG, t_things, t_enter, t_ask, t_less, t_leave, t_show, t_order, t_moves, t_waits, t_who, hl]]
   exact X6 hV hP hW hn0 hbd t_things t_enter hl (ht 2)
  rw [show eG l0 l1 ws = (l0, l1, (⟨#[98, 97, 100]⟩ : ByteArray)) from by simp [eG, t_things, t_enter, t_ask, t_less, t_leave, t_show, t_order, t_moves, t_waits, t_who, hl]]
  exact pY hV hP hW hn0 (.inr (.inl ⟨t_things, t_enter, t_ask, t_less, t_leave, t_show, t_order, t_moves, t_waits, t_who, (decide_eq_false (by omega)), (decide_eq_false hl)⟩))
 by_cases k_ask : (gS ws 0).toList = ([97, 115, 107] : List UInt8)
 ·have t_things : ((gS ws 0).toList == ([116, 104, 105, 110, 103, 115] : List UInt8)) = false := by rw [k_ask]; decide
  have t_enter : ((gS ws 0).toList == ([101, 110, 116, 101, 114] : List UInt8)) = false := by rw [k_ask]; decide
  have t_ask : ((gS ws 0).toList == ([97, 115, 107] : List UInt8)) = true := beq_iff_eq.2 k_ask
  have t_less : ((gS ws 0).toList == ([108, 101, 115, 115] : List UInt8)) = false := by rw [k_ask]; decide
  have t_leave : ((gS ws 0).toList == ([108, 101, 97, 118, 101] : List UInt8)) = false := by rw [k_ask]; decide
  have t_show : ((gS ws 0).toList == ([115, 104, 111, 119] : List UInt8)) = false := by rw [k_ask]; decide
  have t_order : ((gS ws 0).toList == ([111, 114, 100, 101, 114] : List UInt8)) = false := by rw [k_ask]; decide
  have t_moves : ((gS ws 0).toList == ([109, 111, 118, 101, 115] : List UInt8)) = false := by rw [k_ask]; decide
  have t_waits : ((gS ws 0).toList == ([119, 97, 105, 116, 115] : List UInt8)) = false := by rw [k_ask]; decide
  have t_who : ((gS ws 0).toList == ([119, 104, 111] : List UInt8)) = false := by rw [k_ask]; decide
  by_cases hl : 1 < ws.length
  ·rw [show eG l0 l1 ws = ((askB l0 l1 (gS ws 1) (ws.drop 2)).1, (askB l0 l1 (gS ws 1) (ws.drop 2)).2.1, nR (askB l0 l1 (gS ws 1) (ws.drop 2)).2.2) from by simp [eG, t_things, t_enter, t_ask, t_less, t_leave, t_show, t_order, t_moves, t_waits, t_who, hl]]
   exact Eo hV hP hW hn0 hbd t_things t_enter t_ask hl (ht 2)
  rw [show eG l0 l1 ws = (l0, l1, (⟨#[98, 97, 100]⟩ : ByteArray)) from by simp [eG, t_things, t_enter, t_ask, t_less, t_leave, t_show, t_order, t_moves, t_waits, t_who, hl]]
  exact pY hV hP hW hn0 (.inr (.inr (.inl ⟨t_things, t_enter, t_ask, t_less, t_leave, t_show, t_order, t_moves, t_waits, t_who, (decide_eq_false (by omega)), (decide_eq_false hl)⟩)))
 by_cases k_less : (gS ws 0).toList = ([108, 101, 115, 115] : List UInt8)
 ·have t_things : ((gS ws 0).toList == ([116, 104, 105, 110, 103, 115] : List UInt8)) = false := by rw [k_less]; decide
  have t_enter : ((gS ws 0).toList == ([101, 110, 116, 101, 114] : List UInt8)) = false := by rw [k_less]; decide
  have t_ask : ((gS ws 0).toList == ([97, 115, 107] : List UInt8)) = false := by rw [k_less]; decide
  have t_less : ((gS ws 0).toList == ([108, 101, 115, 115] : List UInt8)) = true := beq_iff_eq.2 k_less
  have t_leave : ((gS ws 0).toList == ([108, 101, 97, 118, 101] : List UInt8)) = false := by rw [k_less]; decide
  have t_show : ((gS ws 0).toList == ([115, 104, 111, 119] : List UInt8)) = false := by rw [k_less]; decide
  have t_order : ((gS ws 0).toList == ([111, 114, 100, 101, 114] : List UInt8)) = false := by rw [k_less]; decide
  have t_moves : ((gS ws 0).toList == ([109, 111, 118, 101, 115] : List UInt8)) = false := by rw [k_less]; decide
  have t_waits : ((gS ws 0).toList == ([119, 97, 105, 116, 115] : List UInt8)) = false := by rw [k_less]; decide
  have t_who : ((gS ws 0).toList == ([119, 104, 111] : List UInt8)) = false := by rw [k_less]; decide
  by_cases hl : 1 < ws.length
  ·rw [show eG l0 l1 ws = ((lI l0 l1 (gS ws 1) (ws.drop 2)).1, (lI l0 l1 (gS ws 1) (ws.drop 2)).2.1, nR (lI l0 l1 (gS ws 1) (ws.drop 2)).2.2) from by simp [eG, t_things, t_enter, t_ask, t_less, t_leave, t_show, t_order, t_moves, t_waits, t_who, hl]]
   exact ZI hV hP hW hn0 hbd t_things t_enter t_ask t_less hl (ht 2)
  rw [show eG l0 l1 ws = (l0, l1, (⟨#[98, 97, 100]⟩ : ByteArray)) from by simp [eG, t_things, t_enter, t_ask, t_less, t_leave, t_show, t_order, t_moves, t_waits, t_who, hl]]
  exact pY hV hP hW hn0 (.inr (.inr (.inr (.inl ⟨t_things, t_enter, t_ask, t_less, t_leave, t_show, t_order, t_moves, t_waits, t_who, (decide_eq_false (by omega)), (decide_eq_false hl)⟩))))
 by_cases k_leave : (gS ws 0).toList = ([108, 101, 97, 118, 101] : List UInt8)
 ·have t_things : ((gS ws 0).toList == ([116, 104, 105, 110, 103, 115] : List UInt8)) = false := by rw [k_leave]; decide
  have t_enter : ((gS ws 0).toList == ([101, 110, 116, 101, 114] : List UInt8)) = false := by rw [k_leave]; decide
  have t_ask : ((gS ws 0).toList == ([97, 115, 107] : List UInt8)) = false := by rw [k_leave]; decide
  have t_less : ((gS ws 0).toList == ([108, 101, 115, 115] : List UInt8)) = false := by rw [k_leave]; decide
  have t_leave : ((gS ws 0).toList == ([108, 101, 97, 118, 101] : List UInt8)) = true := beq_iff_eq.2 k_leave
  have t_show : ((gS ws 0).toList == ([115, 104, 111, 119] : List UInt8)) = false := by rw [k_leave]; decide
  have t_order : ((gS ws 0).toList == ([111, 114, 100, 101, 114] : List UInt8)) = false := by rw [k_leave]; decide
  have t_moves : ((gS ws 0).toList == ([109, 111, 118, 101, 115] : List UInt8)) = false := by rw [k_leave]; decide
  have t_waits : ((gS ws 0).toList == ([119, 97, 105, 116, 115] : List UInt8)) = false := by rw [k_leave]; decide
  have t_who : ((gS ws 0).toList == ([119, 104, 111] : List UInt8)) = false := by rw [k_leave]; decide
  by_cases hl : ws.length = 2
  ·rw [show eG l0 l1 ws = ((jN l0 l1 (gS ws 1)).1, (jN l0 l1 (gS ws 1)).2.1, nR (jN l0 l1 (gS ws 1)).2.2) from by simp [eG, t_things, t_enter, t_ask, t_less, t_leave, t_show, t_order, t_moves, t_waits, t_who, hl]]
   exact X7 hV hP hW hn0 hbd t_things t_enter t_ask t_less t_leave (by omega) (beq_iff_eq.2 (by omega)) (decide_eq_true hl)
  rw [show eG l0 l1 ws = (l0, l1, (⟨#[98, 97, 100]⟩ : ByteArray)) from by simp [eG, t_things, t_enter, t_ask, t_less, t_leave, t_show, t_order, t_moves, t_waits, t_who, hl]]
  exact pY hV hP hW hn0 (.inr (.inr (.inr (.inr (.inl ⟨t_things, t_enter, t_ask, t_less, t_leave, t_show, t_order, t_moves, t_waits, t_who, (beq_eq_false_iff_ne.2 (by omega)), (decide_eq_false hl)⟩)))))
 by_cases k_show : (gS ws 0).toList = ([115, 104, 111, 119] : List UInt8)
 ·have t_things : ((gS ws 0).toList == ([116, 104, 105, 110, 103, 115] : List UInt8)) = false := by rw [k_show]; decide
  have t_enter : ((gS ws 0).toList == ([101, 110, 116, 101, 114] : List UInt8)) = false := by rw [k_show]; decide
  have t_ask : ((gS ws 0).toList == ([97, 115, 107] : List UInt8)) = false := by rw [k_show]; decide
  have t_less : ((gS ws 0).toList == ([108, 101, 115, 115] : List UInt8)) = false := by rw [k_show]; decide
  have t_leave : ((gS ws 0).toList == ([108, 101, 97, 118, 101] : List UInt8)) = false := by rw [k_show]; decide
  have t_show : ((gS ws 0).toList == ([115, 104, 111, 119] : List UInt8)) = true := beq_iff_eq.2 k_show
  have t_order : ((gS ws 0).toList == ([111, 114, 100, 101, 114] : List UInt8)) = false := by rw [k_show]; decide
  have t_moves : ((gS ws 0).toList == ([109, 111, 118, 101, 115] : List UInt8)) = false := by rw [k_show]; decide
  have t_waits : ((gS ws 0).toList == ([119, 97, 105, 116, 115] : List UInt8)) = false := by rw [k_show]; decide
  have t_who : ((gS ws 0).toList == ([119, 104, 111] : List UInt8)) = false := by rw [k_show]; decide
  by_cases hl : ws.length = 1
  ·rw [show eG l0 l1 ws = (l0, l1, qI (nA l1)) from by simp [eG, t_things, t_enter, t_ask, t_less, t_leave, t_show, t_order, t_moves, t_waits, t_who, hl]]
   exact ZJ hV hP hW hn0 hbd t_things t_enter t_ask t_less t_leave t_show (beq_iff_eq.2 (by omega)) (decide_eq_true hl)
  rw [show eG l0 l1 ws = (l0, l1, (⟨#[98, 97, 100]⟩ : ByteArray)) from by simp [eG, t_things, t_enter, t_ask, t_less, t_leave, t_show, t_order, t_moves, t_waits, t_who, hl]]
  exact pY hV hP hW hn0 (.inr (.inr (.inr (.inr (.inr (.inl ⟨t_things, t_enter, t_ask, t_less, t_leave, t_show, t_order, t_moves, t_waits, t_who, (beq_eq_false_iff_ne.2 (by omega)), (decide_eq_false hl)⟩))))))
 by_cases k_order : (gS ws 0).toList = ([111, 114, 100, 101, 114] : List UInt8)
 ·have t_things : ((gS ws 0).toList == ([116, 104, 105, 110, 103, 115] : List UInt8)) = false := by rw [k_order]; decide
  have t_enter : ((gS ws 0).toList == ([101, 110, 116, 101, 114] : List UInt8)) = false := by rw [k_order]; decide
  have t_ask : ((gS ws 0).toList == ([97, 115, 107] : List UInt8)) = false := by rw [k_order]; decide
  have t_less : ((gS ws 0).toList == ([108, 101, 115, 115] : List UInt8)) = false := by rw [k_order]; decide
  have t_leave : ((gS ws 0).toList == ([108, 101, 97, 118, 101] : List UInt8)) = false := by rw [k_order]; decide
  have t_show : ((gS ws 0).toList == ([115, 104, 111, 119] : List UInt8)) = false := by rw [k_order]; decide
  have t_order : ((gS ws 0).toList == ([111, 114, 100, 101, 114] : List UInt8)) = true := beq_iff_eq.2 k_order
  have t_moves : ((gS ws 0).toList == ([109, 111, 118, 101, 115] : List UInt8)) = false := by rw [k_order]; decide
  have t_waits : ((gS ws 0).toList == ([119, 97, 105, 116, 115] : List UInt8)) = false := by rw [k_order]; decide
  have t_who : ((gS ws 0).toList == ([119, 104, 111] : List UInt8)) = false := by rw [k_order]; decide
  by_cases hl : ws.length = 1
  ·by_cases ho : (jS l0 l1).2 = true
   ·rw [show eG l0 l1 ws = (l0, l1, oC (jS l0 l1).1) from by rw [yN (x8 hbd).2]; simp [eG, t_things, t_enter, t_ask, t_less, t_leave, t_show, t_order, t_moves, t_waits, t_who, hl, ho]]
    exact X9 hV hP hW hn0 hbd t_things t_enter t_ask t_less t_leave t_show t_order (beq_iff_eq.2 (by omega)) (decide_eq_true hl) (x8 hbd).1 ho
   rw [show eG l0 l1 ws = (l0, l1, (⟨#[110, 111]⟩ : ByteArray)) from by simp [eG, t_things, t_enter, t_ask, t_less, t_leave, t_show, t_order, t_moves, t_waits, t_who, hl, ho]]
   exact OX hV hP hW hn0 hbd t_things t_enter t_ask t_less t_leave t_show t_order (beq_iff_eq.2 (by omega)) (decide_eq_true hl) (x8 hbd).1 (by simpa using ho)
  rw [show eG l0 l1 ws = (l0, l1, (⟨#[98, 97, 100]⟩ : ByteArray)) from by simp [eG, t_things, t_enter, t_ask, t_less, t_leave, t_show, t_order, t_moves, t_waits, t_who, hl]]
  exact pY hV hP hW hn0 (.inr (.inr (.inr (.inr (.inr (.inr (.inl ⟨t_things, t_enter, t_ask, t_less, t_leave, t_show, t_order, t_moves, t_waits, t_who, (beq_eq_false_iff_ne.2 (by omega)), (decide_eq_false hl)⟩)))))))
 by_cases k_moves : (gS ws 0).toList = ([109, 111, 118, 101, 115] : List UInt8)
 ·have t_things : ((gS ws 0).toList == ([116, 104, 105, 110, 103, 115] : List UInt8)) = false := by rw [k_moves]; decide
  have t_enter : ((gS ws 0).toList == ([101, 110, 116, 101, 114] : List UInt8)) = false := by rw [k_moves]; decide
  have t_ask : ((gS ws 0).toList == ([97, 115, 107] : List UInt8)) = false := by rw [k_moves]; decide
  have t_less : ((gS ws 0).toList == ([108, 101, 115, 115] : List UInt8)) = false := by rw [k_moves]; decide
  have t_leave : ((gS ws 0).toList == ([108, 101, 97, 118, 101] : List UInt8)) = false := by rw [k_moves]; decide
  have t_show : ((gS ws 0).toList == ([115, 104, 111, 119] : List UInt8)) = false := by rw [k_moves]; decide
  have t_order : ((gS ws 0).toList == ([111, 114, 100, 101, 114] : List UInt8)) = false := by rw [k_moves]; decide
  have t_moves : ((gS ws 0).toList == ([109, 111, 118, 101, 115] : List UInt8)) = true := beq_iff_eq.2 k_moves
  have t_waits : ((gS ws 0).toList == ([119, 97, 105, 116, 115] : List UInt8)) = false := by rw [k_moves]; decide
  have t_who : ((gS ws 0).toList == ([119, 104, 111] : List UInt8)) = false := by rw [k_moves]; decide
  by_cases hl : ws.length = 1
  ·rw [show eG l0 l1 ws = (l0, l1, oC (qB l0 l1)) from by rw [yN (E8 hbd).2]; simp [eG, t_things, t_enter, t_ask, t_less, t_leave, t_show, t_order, t_moves, t_waits, t_who, hl]]
   exact X8 hV hP hW hn0 hbd t_things t_enter t_ask t_less t_leave t_show t_order t_moves (beq_iff_eq.2 (by omega)) (decide_eq_true hl) (E8 hbd).1
  rw [show eG l0 l1 ws = (l0, l1, (⟨#[98, 97, 100]⟩ : ByteArray)) from by simp [eG, t_things, t_enter, t_ask, t_less, t_leave, t_show, t_order, t_moves, t_waits, t_who, hl]]
  exact pY hV hP hW hn0 (.inr (.inr (.inr (.inr (.inr (.inr (.inr (.inl ⟨t_things, t_enter, t_ask, t_less, t_leave, t_show, t_order, t_moves, t_waits, t_who, (beq_eq_false_iff_ne.2 (by omega)), (decide_eq_false hl)⟩))))))))
 by_cases k_waits : (gS ws 0).toList = ([119, 97, 105, 116, 115] : List UInt8)
 ·have t_things : ((gS ws 0).toList == ([116, 104, 105, 110, 103, 115] : List UInt8)) = false := by rw [k_waits]; decide
  have t_enter : ((gS ws 0).toList == ([101, 110, 116, 101, 114] : List UInt8)) = false := by rw [k_waits]; decide
  have t_ask : ((gS ws 0).toList == ([97, 115, 107] : List UInt8)) = false := by rw [k_waits]; decide
  have t_less : ((gS ws 0).toList == ([108, 101, 115, 115] : List UInt8)) = false := by rw [k_waits]; decide
  have t_leave : ((gS ws 0).toList == ([108, 101, 97, 118, 101] : List UInt8)) = false := by rw [k_waits]; decide
  have t_show : ((gS ws 0).toList == ([115, 104, 111, 119] : List UInt8)) = false := by rw [k_waits]; decide
  have t_order : ((gS ws 0).toList == ([111, 114, 100, 101, 114] : List UInt8)) = false := by rw [k_waits]; decide
  have t_moves : ((gS ws 0).toList == ([109, 111, 118, 101, 115] : List UInt8)) = false := by rw [k_waits]; decide
  have t_waits : ((gS ws 0).toList == ([119, 97, 105, 116, 115] : List UInt8)) = true := beq_iff_eq.2 k_waits
  have t_who : ((gS ws 0).toList == ([119, 104, 111] : List UInt8)) = false := by rw [k_waits]; decide
  by_cases hl : ws.length = 2
  ·rw [show eG l0 l1 ws = (l0, l1, oC (mD l0 l1 (gS ws 1))) from by rw [yN (EG hbd _).2]; simp [eG, t_things, t_enter, t_ask, t_less, t_leave, t_show, t_order, t_moves, t_waits, t_who, hl]]
   exact XA hV hP hW hn0 hbd t_things t_enter t_ask t_less t_leave t_show t_order t_moves t_waits (beq_iff_eq.2 (by omega)) (decide_eq_true hl) (by omega) (EG hbd _).1
  rw [show eG l0 l1 ws = (l0, l1, (⟨#[98, 97, 100]⟩ : ByteArray)) from by simp [eG, t_things, t_enter, t_ask, t_less, t_leave, t_show, t_order, t_moves, t_waits, t_who, hl]]
  exact pY hV hP hW hn0 (.inr (.inr (.inr (.inr (.inr (.inr (.inr (.inr (.inl ⟨t_things, t_enter, t_ask, t_less, t_leave, t_show, t_order, t_moves, t_waits, t_who, (beq_eq_false_iff_ne.2 (by omega)), (decide_eq_false hl)⟩)))))))))
 by_cases k_who : (gS ws 0).toList = ([119, 104, 111] : List UInt8)
 ·have t_things : ((gS ws 0).toList == ([116, 104, 105, 110, 103, 115] : List UInt8)) = false := by rw [k_who]; decide
  have t_enter : ((gS ws 0).toList == ([101, 110, 116, 101, 114] : List UInt8)) = false := by rw [k_who]; decide
  have t_ask : ((gS ws 0).toList == ([97, 115, 107] : List UInt8)) = false := by rw [k_who]; decide
  have t_less : ((gS ws 0).toList == ([108, 101, 115, 115] : List UInt8)) = false := by rw [k_who]; decide
  have t_leave : ((gS ws 0).toList == ([108, 101, 97, 118, 101] : List UInt8)) = false := by rw [k_who]; decide
  have t_show : ((gS ws 0).toList == ([115, 104, 111, 119] : List UInt8)) = false := by rw [k_who]; decide
  have t_order : ((gS ws 0).toList == ([111, 114, 100, 101, 114] : List UInt8)) = false := by rw [k_who]; decide
  have t_moves : ((gS ws 0).toList == ([109, 111, 118, 101, 115] : List UInt8)) = false := by rw [k_who]; decide
  have t_waits : ((gS ws 0).toList == ([119, 97, 105, 116, 115] : List UInt8)) = false := by rw [k_who]; decide
  have t_who : ((gS ws 0).toList == ([119, 104, 111] : List UInt8)) = true := beq_iff_eq.2 k_who
  by_cases hl : ws.length = 2
  ·rw [show eG l0 l1 ws = (l0, l1, oC [whoB l0 l1 (gS ws 1)]) from by
    rw [YN]
    cases hq : ((whoB l0 l1 (gS ws 1)).toList == ([] : List UInt8)) <;> simp only [eG, t_things, t_enter, t_ask, t_less, t_leave, t_show, t_order, t_moves, t_waits, t_who, hl, hq] <;> simp]
   exact Ep hV hP hW hn0 hbd t_things t_enter t_ask t_less t_leave t_show t_order t_moves t_waits t_who (beq_iff_eq.2 (by omega)) (decide_eq_true hl) (by omega) ⟨by simp, fun s hs => by rw [List.mem_singleton] at hs; rw [hs]; exact Nat.le_trans (XD hbd (gS ws 1)) (by omega)⟩
  rw [show eG l0 l1 ws = (l0, l1, (⟨#[98, 97, 100]⟩ : ByteArray)) from by simp [eG, t_things, t_enter, t_ask, t_less, t_leave, t_show, t_order, t_moves, t_waits, t_who, hl]]
  exact pY hV hP hW hn0 (.inr (.inr (.inr (.inr (.inr (.inr (.inr (.inr (.inr (⟨t_things, t_enter, t_ask, t_less, t_leave, t_show, t_order, t_moves, t_waits, t_who, (beq_eq_false_iff_ne.2 (by omega)), (decide_eq_false hl)⟩))))))))))
 have t_things : ((gS ws 0).toList == ([116, 104, 105, 110, 103, 115] : List UInt8)) = false := beq_eq_false_iff_ne.2 k_things
 have t_enter : ((gS ws 0).toList == ([101, 110, 116, 101, 114] : List UInt8)) = false := beq_eq_false_iff_ne.2 k_enter
 have t_ask : ((gS ws 0).toList == ([97, 115, 107] : List UInt8)) = false := beq_eq_false_iff_ne.2 k_ask
 have t_less : ((gS ws 0).toList == ([108, 101, 115, 115] : List UInt8)) = false := beq_eq_false_iff_ne.2 k_less
 have t_leave : ((gS ws 0).toList == ([108, 101, 97, 118, 101] : List UInt8)) = false := beq_eq_false_iff_ne.2 k_leave
 have t_show : ((gS ws 0).toList == ([115, 104, 111, 119] : List UInt8)) = false := beq_eq_false_iff_ne.2 k_show
 have t_order : ((gS ws 0).toList == ([111, 114, 100, 101, 114] : List UInt8)) = false := beq_eq_false_iff_ne.2 k_order
 have t_moves : ((gS ws 0).toList == ([109, 111, 118, 101, 115] : List UInt8)) = false := beq_eq_false_iff_ne.2 k_moves
 have t_waits : ((gS ws 0).toList == ([119, 97, 105, 116, 115] : List UInt8)) = false := beq_eq_false_iff_ne.2 k_waits
 have t_who : ((gS ws 0).toList == ([119, 104, 111] : List UInt8)) = false := beq_eq_false_iff_ne.2 k_who
 rw [show eG l0 l1 ws = (l0, l1, (⟨#[98, 97, 100]⟩ : ByteArray)) from by simp [eG, t_things, t_enter, t_ask, t_less, t_leave, t_show, t_order, t_moves, t_waits, t_who]]
 exact pY hV hP hW hn0 (.inl ⟨t_things, t_enter, t_ask, t_less, t_leave, t_show, t_order, t_moves, t_waits, t_who, trivial, trivial⟩)
theorem UN (s : ByteArray) (w : World) (hs : s.size ≤ 1048576) : Calls Tryz.prog 8 #[.string s, .int .u8 10] w fun e w' => ∃ b c : Nat, e = .returned (.slice (some ⟨b, 0, none⟩) (pieces s ⟨#[10]⟩).length c) ∧ WsAt w' b c (pieces s ⟨#[10]⟩) ∧ w.heap.size ≤ b ∧ Below w.heap.size w w' := by
 obtain ⟨K, hK⟩ := F8 s 10 hs
 refine (jC.calls K s 10 _ w (hK K (Nat.le_refl _))).mono ?_
 rintro e w' ⟨v, rfl, hr, hb⟩
 have hne := sW 10 s
 obtain ⟨A, c, rfl⟩ := Kd.cB hr
 rcases zJ hr with ⟨_, _, e2⟩ | ⟨g, cur, rfl, _, h4, _⟩
 ·exact absurd e2 hne
 exact ⟨g, c, rfl, ⟨(Kd.bI hr).2.1, (Kd.bI hr).2.2⟩, h4, hb⟩
theorem Kt (s : ByteArray) (w : World) (hs : s.size ≤ 1048576) : Calls Tryz.prog 8 #[.string s, .int .u8 32] w fun e w' => ∃ b c : Nat, e = .returned (.slice (some ⟨b, 0, none⟩) (pieces s ⟨#[32]⟩).length c) ∧ WsAt w' b c (pieces s ⟨#[32]⟩) ∧ w.heap.size ≤ b ∧ Below w.heap.size w w' := by
 obtain ⟨K, hK⟩ := F8 s 32 hs
 refine (jC.calls K s 32 _ w (hK K (Nat.le_refl _))).mono ?_
 rintro e w' ⟨v, rfl, hr, hb⟩
 have hne := sW 32 s
 obtain ⟨A, c, rfl⟩ := Kd.cB hr
 rcases zJ hr with ⟨_, _, e2⟩ | ⟨g, cur, rfl, _, h4, _⟩
 ·exact absurd e2 hne
 exact ⟨g, c, rfl, ⟨(Kd.bI hr).2.1, (Kd.bI hr).2.2⟩, h4, hb⟩
def Lies (w : World) (b : Nat) (fl : List ByteArray) : Prop := ∀ i, (h : i < fl.length) → w.cell? ⟨b, i, none⟩ = some (.string fl[i])
theorem Lies.below {w w' : World} {b : Nat} {fl : List ByteArray} (h : Lies w b fl) (hb : Below w.heap.size w w') : Lies w' b fl := fun i hi => (hb.cell (p := ⟨b, i, none⟩) (World.block_lt_of_cell? _ _ (h i hi))).trans (h i hi)
theorem Lies.far {w : World} {b g : Nat} {fl : List ByteArray} {u v : Value} (h : Lies w b fl) (hg : b ≠ g) : Lies ((w.setCell ⟨g, 0, none⟩ u).setCell ⟨g, 1, none⟩ v) b fl := fun i hi => (cell_far (p := ⟨g, 1, none⟩) hg v).trans ((cell_far (p := ⟨g, 0, none⟩) hg u).trans (h i hi))
theorem Df {w w' : World} {a : Addr} {v : Value} (h : w.cell? a = some v) (hb : Below w.heap.size w w') : w'.cell? a = some v := (hb.cell (World.block_lt_of_cell? _ _ h)).trans h
theorem kp {w w2 w3 : World} {g4 b : Nat} {o4 : Obj} {a : Addr} {v : Value} {fl : List ByteArray} (h1 : aD (w2.heap[g4]? = some o4)) (h2 : aD (Lies w2 b fl)) (h3 : aD (w2.cell? a = some v)) (h4 : aD (Below w.heap.size w w2)) (hb : Below w2.heap.size w2 w3) : aD (w3.heap[g4]? = some o4) ∧ aD (Lies w3 b fl) ∧ aD (w3.cell? a = some v) ∧ aD (Below w.heap.size w w3) :=
  ⟨⟨aV h1.out hb⟩, ⟨h2.out.below hb⟩, ⟨Df h3.out hb⟩, ⟨dG h4.out hb⟩⟩
theorem jW.fresh {P : Nat → Prop} {w : World} {g : Nat} {v0 v1 : Value} {l0 : List ByteArray} {l1 : List MB} (h : jW P w v0 v1 l0 l1) (hg : w.heap.size ≤ g) : jW (fun k => P k ∧ k ≠ g) w v0 v1 l0 l1 := ⟨Kd.H8 h.1 g hg, Kd.H8 h.2 g hg⟩
set_option maxHeartbeats 4000000 in
set_option maxRecDepth 100000 in
theorem DF {text : ByteArray} {p : List ByteArray} {m : Nat} {w : World} (hs : text.size ≤ 1048576) (hp : pieces text ⟨#[10]⟩ = p) (hl : p.length = m + 1) (hlast : ((gS p m).toList == ([] : List UInt8)) = true) (hq : 8000 < text.size ∨ ¬ 8000 < text.size ∧ 200 < m) :
  Calls Tryz.prog 5 #[.string text] w fun e w' => e = .returned (.string (⟨#[116, 111, 111, 32, 108, 111, 110, 103, 10]⟩ : ByteArray)) ∧ Below w.heap.size w w' := by
 have hbig := mP 10 text
 rw [hp, hl] at hbig
 have hsp := UN text w hs
 rw [hp, hl] at hsp
 have HSP := am hsp
 clear hsp
 have HL := am (show p.length = m + 1 ∧ (∀ x ∈ p, x.size ≤ text.size) from ⟨hl, fun x hx => oV (hp ▸ hx)⟩)
 clear hp hl
 have hu31 := Tryz.underlying31
 have hu27 := Tryz.underlying27
 have hb1 : m ≤ 1048576 := by omega
 clear hbig
 have g1 : ((m : Int) < (m : Int) + 1) = True := eq_true (by omega)
 have g2 : (m < m + 1) = True := eq_true (by omega)
 have QZ : ((gS p m).toList != ([] : List UInt8)) = false := by simp only [bne, hlast]; rfl
 clear hs
 obtain ⟨i0, YF, _, hsz, _⟩ := info_parts jP
 have HCUT := am (fun (b c : Nat) (hc : m + 1 ≤ c) => CQ (P := Tryz.prog) 27 9 .i64 Tryz.underlying27 YF (some ⟨b, 0, none⟩) (m + 1) c (m : Int) (by omega) (by omega) hc)
 clear YF hsz
 rcases hq with hz | ⟨hz, hk⟩
 ·have z1 : decide (8000 < (text.size : Int)) = true := decide_eq_true (by omega)
  have z2 : decide (8000 < text.size) = true := decide_eq_true (by omega)
  clear hz
  go_enter Tryz.func5, Tryz.ntmps5
  go_wp2_with (first | (go_at_call 8; refine HSP.out.mono ?_; rintro e_ w1 ⟨b, c, rfl, hws, hbl, hb⟩; have HWS := am hws; have HB1 := am hb; have HBL := am hbl; have x0 := hws.cell m (by rw [HL.out.1]; omega); have hcut := HCUT.1 b c (by have := hws.cap; rw [HL.out.1] at this; exact this); rw [Int.toNat_natCast] at hcut; clear hws hb hbl))
  go_ret
  exact ⟨rfl, HB1.out⟩
 have z1 : decide (8000 < (text.size : Int)) = false := decide_eq_false (by omega)
 have z2 : decide (8000 < text.size) = false := decide_eq_false (by omega)
 have z3 : decide (200 < (m : Int)) = true := decide_eq_true (by omega)
 have z4 : decide (200 < m) = true := decide_eq_true (by omega)
 clear hz hk
 go_enter Tryz.func5, Tryz.ntmps5
 go_wp2_with (first | (go_at_call 8; refine HSP.out.mono ?_; rintro e_ w1 ⟨b, c, rfl, hws, hbl, hb⟩; have HWS := am hws; have HB1 := am hb; have HBL := am hbl; have x0 := hws.cell m (by rw [HL.out.1]; omega); have hcut := HCUT.1 b c (by have := hws.cap; rw [HL.out.1] at this; exact this); rw [Int.toNat_natCast] at hcut; clear hws hb hbl))
 go_ret
 exact ⟨rfl, HB1.out⟩
set_option maxHeartbeats 4000000 in
set_option maxRecDepth 100000 in
theorem Q6 {text : ByteArray} {p : List ByteArray} {m : Nat} {w : World} (hs : text.size ≤ 1048576) (hp : pieces text ⟨#[10]⟩ = p) (hl : p.length = m + 1) (hlast : ((gS p m).toList == ([] : List UInt8)) = true) (hz : ¬ 8000 < text.size) (hk : ¬ 200 < m) :
  Calls Tryz.prog 5 #[.string text] w fun e w' => e = .returned (.string (runR (p.take m)).2.2) ∧ Below w.heap.size w w' := by
 have hbig := mP 10 text
 rw [hp, hl] at hbig
 have hsp := UN text w hs
 rw [hp, hl] at hsp
 have HSP := am hsp
 clear hsp
 have HL := am (show p.length = m + 1 ∧ (∀ x ∈ p, x.size ≤ text.size) from ⟨hl, fun x hx => oV (hp ▸ hx)⟩)
 clear hp hl
 have hu31 := Tryz.underlying31
 have hu27 := Tryz.underlying27
 have hb1 : m ≤ 1048576 := by omega
 clear hbig
 have g1 : ((m : Int) < (m : Int) + 1) = True := eq_true (by omega)
 have g2 : (m < m + 1) = True := eq_true (by omega)
 have QZ : ((gS p m).toList != ([] : List UInt8)) = false := by simp only [bne, hlast]; rfl
 have z1 : decide (8000 < (text.size : Int)) = false := decide_eq_false (by omega)
 have z2 : decide (8000 < text.size) = false := decide_eq_false (by omega)
 have HZ := am hz
 clear hs
 have z3 : decide (200 < (m : Int)) = false := decide_eq_false (by omega)
 have z4 : decide (200 < m) = false := decide_eq_false (by omega)
 have HK := am hk
 clear hk hz
 obtain ⟨i0, YF, _, hsz, _⟩ := info_parts jP
 have HCUT := am (fun (b c : Nat) (hc : m + 1 ≤ c) => CQ (P := Tryz.prog) 27 9 .i64 Tryz.underlying27 YF (some ⟨b, 0, none⟩) (m + 1) c (m : Int) (by omega) (by omega) hc)
 clear YF hsz
 have HLL := am (show ((p.take m)).length = m ∧ ∀ x ∈ (p.take m), x.size ≤ 8000 from by
  have h1 := HL.out.1
  have h3 := HZ.out
  refine ⟨by rw [List.length_take]; omega, fun x hx => ?_⟩
  have := HL.out.2 x (List.mem_of_mem_take hx); omega)
 obtain ⟨fl, hfl⟩ : ∃ fl, fl = (p.take m) := ⟨_, rfl⟩
 rw [← hfl] at HLL
 have HFL := am hfl
 clear hfl
 go_enter Tryz.func5, Tryz.ntmps5
 go_wp2_with (first | (go_at_call 8; refine HSP.out.mono ?_; rintro e_ w1 ⟨b, c, rfl, hws, hbl, hb⟩; have HWS := am hws; have HB1 := am hb; have HBL := am hbl; have x0 := hws.cell m (by rw [HL.out.1]; omega); have hcut := HCUT.1 b c (by have := hws.cap; rw [HL.out.1] at this; exact this); rw [Int.toNat_natCast] at hcut; clear hws hb hbl) | ((with_reducible refine dF (N := 4) rfl ?_); (refine dX ?hg (N := 4) ?hd (cs := #[.slice none 0 0, .slice none 0 0]) (t := 31) ?hr ?_; (case hd => rfl); (case hg => rfl); (case hr => first | (go_simp; done) | (go_simp; rfl)); intro g4 hgg w2 hbox hb; have HG := am hbox; have HGE := am (show w1.heap.size ≤ g4 from Nat.le_of_eq hgg.symm); have HB2 := am (dG HB1.out hb); have HW2 := am (HWS.out.below hb); have k0 : w2.cell? ⟨g4, 0, none⟩ = some (.slice none 0 0) := (aH hbox 0).trans rfl; have k1 : w2.cell? ⟨g4, 1, none⟩ = some (.slice none 0 0) := (aH hbox 1).trans rfl; have k2 := bL hbox 0; have k3 := bL hbox 1; clear hbox hb hgg x0)))
 have HBLT := am (show b ≠ g4 from by have q := World.block_lt_of_cell? w1 _ (HWS.out.cell 0 (by have := HL.out.1; omega)); have q2 := HGE.out; dsimp only at q; omega)
 have HGW := am (show w.heap.size ≤ g4 from Nat.le_trans HB1.out.size HGE.out)
 have HCE := am (show Lies w2 b fl from fun i h => by
  have h1 := HLL.out.1
  have h2 := HL.out.1
  have q := HW2.out.cell i (by omega)
  have e : gS p i = fl[i] := by
   have e0 : gS p i = p[i]'(by omega) := getD_lt _ _ _
   rw [e0]
   simp only [HFL.out]; rw [List.getElem_take]
  rw [e] at q
  exact q)
 have HS2 := am (show jW (fun k => k ≠ g4) ((w2.setCell ⟨g4, 0, none⟩ (.slice none 0 0)).setCell ⟨g4, 1, none⟩ (.slice none 0 0)) (.slice none 0 0) (.slice none 0 0) [] [] from ⟨Kd.sS _ _ _ _ _, Kd.sS _ _ _ _ _⟩)
 have HGG4 := am (show ((w2.setCell ⟨g4, 0, none⟩ (.slice none 0 0)).setCell ⟨g4, 1, none⟩ (.slice none 0 0)).heap[g4]? = some (.cells #[.slice none 0 0, .slice none 0 0] 31 (0, 0)) from bD (cs := #[.slice none 0 0, .slice none 0 0]) (bD (cs := #[.slice none 0 0, .slice none 0 0]) HG.out 0 _ rfl) 1 _ rfl)
 have HLS2 := am (show Lies ((w2.setCell ⟨g4, 0, none⟩ (.slice none 0 0)).setCell ⟨g4, 1, none⟩ (.slice none 0 0)) b fl from HCE.1.far HBLT.out)
 have HB3 := am (show Below w.heap.size w ((w2.setCell ⟨g4, 0, none⟩ (.slice none 0 0)).setCell ⟨g4, 1, none⟩ (.slice none 0 0)) from aJ (aJ HB2.out HGW.out) HGW.out)
 clear HWS HW2 HG HCE hlast QZ g1 g2 z1 z2 z3 z4 k0 k1 k2 k3 hcut
 go_loopg [5, 6] fl.length (fun gg v5 v6 wr => ∃ (x : Int) (ou : ByteArray) (o1 : List ByteArray) (o2 : List MB) (v0 v1 : Value), v6 = .int .i64 x ∧ v5 = .string ou ∧ (0 ≤ x ∧ x ≤ fl.length) ∧ fl.length - x.toNat ≤ gg ∧ aD (runR (fl.take x.toNat) = (o1, o2, ou)) ∧ aD (jW (fun k => k ≠ g4) wr v0 v1 o1 o2) ∧ aD (wr.heap[g4]? = some (.cells #[v0, v1] 31 (0, 0))) ∧ aD (Lies wr b fl) ∧ aD (Below w.heap.size w wr))
 case atStart => exact ⟨0, (⟨#[]⟩ : ByteArray), [], [], _, _, rfl, rfl, ⟨by omega, by omega⟩, by simp, ⟨rfl⟩, HS2, HGG4, HLS2, HB3⟩
 clear HS2 HGG4 HLS2 HB3 HB2
 obtain ⟨x, ou, o1, o2, v0, v1, rfl, rfl, ⟨EI, MQ⟩, hgg, HRR, HBV, HG4, HLS, HB⟩ := hrel
 obtain ⟨A0, c0, A1, c1, rfl, rfl⟩ := HBV.out.slices
 have hfk : (fl.length : Int) = (m : Int) := by have := HLL.out.1; omega
 have HGG := am hgg
 by_cases c5 : x < (fl.length : Int)
 ·have HXI := am (show 0 ≤ x ∧ x < (fl.length : Int) from ⟨EI, c5⟩)
  have hxn : x.toNat < fl.length := by omega
  obtain ⟨li, hli⟩ : ∃ li, li = fl[x.toNat] := ⟨_, rfl⟩
  have x0 := HLS.out x.toNat hxn
  rw [← hli] at x0
  have HLI := am (show li ∈ fl from hli ▸ List.getElem_mem _)
  obtain ⟨hg1, hg2⟩ := D8 fl x.toNat (by omega)
  have hst := D9 fl hxn
  rw [← hli, HRR.1] at hst
  rw [HRR.1] at hg1 hg2
  dsimp only at hg1 hg2
  obtain ⟨pc, hpc⟩ : ∃ pc, pieces li ⟨#[32]⟩ = pc := ⟨_, rfl⟩
  have hln := AC hg1 pc
  obtain ⟨n1, n2, an, hnn⟩ : ∃ n1 n2 an, eG o1 o2 pc = (n1, n2, an) := ⟨_, _, _, rfl⟩
  unfold V3 at hln
  rw [hnn] at hln
  dsimp only at hln
  have HST := am (show runR (fl.take (x.toNat + 1)) = (n1, n2, (ou ++ an) ++ (⟨#[10]⟩ : ByteArray)) from by rw [hst, P6, hpc, hnn, ByteArray.append_assoc])
  have hsz := HLL.out.2 li HLI.out
  have HCUT5 := am (fun w => hpc ▸ Kt li w (by omega))
  have HPC := am (show 0 < pc.length ∧ pc.length ≤ 8001 from by
   have q1 := mP 32 li
   have q2 := List.length_pos_iff.2 (sW 32 li)
   rw [hpc] at q1 q2
   exact ⟨q2, by omega⟩)
  have HNN := am hnn
  have HBD := am hg1
  have hfl2 : fl.length ≤ 201 := by have := HLL.out.1; have := HK.out; omega
  have hou : ou.size ≤ 2001 * 201 := by have := HXI.out; exact Nat.le_trans hg2 (Nat.mul_le_mul_left _ (by omega))
  have q1 : (9223372036854775807 < ou.size + an.size) = False := eq_false (by have := hln.2; omega)
  have q2 : (9223372036854775807 < ou.size + an.size + 1) = False := eq_false (by have := hln.2; omega)
  have q3 : (9223372036854775807 < (ou ++ an).size + 1) = False := eq_false (by have := hln.2; rw [ByteArray.size_append]; omega)
  have c5b : decide (x < (m : Int)) = true := decide_eq_true (by omega)
  have c5c : (x < (m : Int)) = True := eq_true (by omega)
  have c5d : ((0 : Int) ≤ x) = True := eq_true EI
  have HXN := am hxn
  clear hli hst hnn hpc hln hg1 hg2 hou hxn c5 EI MQ hgg hfk hfl2 hsz
  try go_wp2
  have HG4d := am (dM HG4.out)
  have HBVd := am (HBV.out.below (aU (Below.refl _ _)))
  have HLSd := am (HLS.out.below (aU (Below.refl _ _)))
  have HBd := am (aU HB.1)
  have HCXd := am (show wr.drew.cell? ⟨b, x.toNat, none⟩ = some (.string li) from x0)
  clear HG4 HBV HLS HB x0
  refine sT (S := fun w' => w'.cell? ⟨g4, 0, none⟩ = some (.slice A0 o1.length c0) ∧ w'.cell? ⟨g4, 1, none⟩ = some (.slice A1 o2.length c1) ∧ w'.cell? ⟨b, x.toNat, none⟩ = some (.string li)) [] 13 ⟨⟨(aH HG4d.out 0).trans rfl, (aH HG4d.out 1).trans rfl, HCXd.1⟩⟩ (fun hHeld => ?_)
  generalize wr.drew = w2 at HG4d HBVd HLSd HBd HCXd hHeld ⊢
  have HG4 := HG4d
  have HBV := HBVd
  have HLS := HLSd
  have HB := HBd
  have HCX := HCXd
  clear HG4d HBVd HLSd HBd HCXd
  refine pU0 1 (some 40) ?_
  refine pU0 2 (some 41) ?_
  refine pU0 3 (some 42) ?_
  refine tK3_ 0 (some 39) ?_
  refine tK3_ 4 (some 43) ?_
  refine Bw (σ := Value × Value × Value × Nat) 2 (bz 13 2047) (fun s_ => [(44, s_.1), (45, .tuple #[.agg #[s_.2.1, s_.2.2.1], .string an]), (7, .pointer (some ⟨s_.2.2.2, 0, none⟩)), (38, .tuple #[.agg #[s_.2.1, s_.2.2.1], .string an]), (46, .agg #[s_.2.1, s_.2.2.1]), (47, .string an)]) (fun s_ w' => (w'.cell? ⟨g4, 0, none⟩ = some (.slice A0 o1.length c0) ∧ w'.cell? ⟨g4, 1, none⟩ = some (.slice A1 o2.length c1) ∧ w'.cell? ⟨b, x.toNat, none⟩ = some (.string li)) ∧ jW (fun k => k ≠ g4 ∧ k ≠ s_.2.2.2) w' s_.2.1 s_.2.2.1 n1 n2 ∧ w'.heap[g4]? = some (.cells #[.slice A0 o1.length c0, .slice A1 o2.length c1] 31 (0, 0)) ∧ w'.heap[s_.2.2.2]? = some (.cells #[.slice none 0 0, .slice none 0 0] 31 (0, 0)) ∧ w.heap.size ≤ s_.2.2.2 ∧ g4 ≠ s_.2.2.2 ∧ b ≠ s_.2.2.2 ∧ Lies w' b fl ∧ Below w.heap.size w w') ?_ ?_
  rotate_left
  ·intro hCont
   refine two_ (i := 5) (j := 10) (Ni := some 44) (Nj := some 7) (bz 13 63) (bz 13 1055) rfl rfl rfl rfl (by kernel_rfl) (by decide) (by decide) (fun K hK => ?_) (fun K hK => ?_)
   ·refine kF Tryz.func8 (by kernel_rfl) rfl #[.string li, .int .u8 32] (by rfl) rfl rfl n7 ?_
    refine (HCUT5.1 _).mono ?_
    rintro e_ w3 ⟨b5, c5_, rfl, hws, _, hb⟩
    obtain ⟨p1, p2, p3, p4⟩ := kp HG4 HLS HCX HB hb
    clear HG4 HLS HCX HB
    have HG4 := p1
    have HLS := p2
    have HCX := p3
    have HB := p4
    clear p1 p2 p3 p4
    replace HBV := am (HBV.out.below hb)
    have HW5 := am hws
    clear hws hb
    refine ⟨_, rfl, ?_⟩
    refine hK.out _ _ ⟨(aH HG4.out 0).trans rfl, (aH HG4.out 1).trans rfl, HCX.1⟩ (fun hHeld => ?_)
    clear hK K
    refine nM ?_
    refine two_ (i := 6) (j := 10) (Ni := some 45) (Nj := some 7) (bz 13 127) (bz 13 1087) rfl rfl rfl rfl (by kernel_rfl) (by decide) (by decide) (fun K hK => ?_) (fun K hK => ?_)
    ·refine kF Tryz.func9 (by kernel_rfl) rfl #[.agg #[.slice A0 o1.length c0, .slice A1 o2.length c1], .slice (some ⟨b5, 0, none⟩) pc.length c5_] (by rfl) rfl rfl n7 ?_
     have hL := sZ HBV.out (fun k hk => by have := dU HG4.out; omega) HW5.out HPC.out.1 HPC.out.2 HBD.out
     rw [HNN.out] at hL
     dsimp only at hL
     refine hL.mono ?_
     clear hL
     rintro e_ w4 hA
     obtain ⟨u0, u1, rfl, hbk, hb⟩ := hA
     obtain ⟨p1, p2, p3, p4⟩ := kp HG4 HLS HCX HB hb
     clear HG4 HLS HCX HB
     have HG4 := p1
     have HLS := p2
     have HCX := p3
     have HB := p4
     clear p1 p2 p3 p4
     replace HW5 := am (HW5.out.below hb)
     have HNB := am hbk
     clear hbk hb HBV
     refine ⟨_, rfl, ?_⟩
     refine hK.out _ _ ⟨(aH HG4.out 0).trans rfl, (aH HG4.out 1).trans rfl, HCX.1⟩ (fun hHeld => ?_)
     clear hK K
     refine nM ?_
     refine pU0 7 (some 38) ?_
     refine pU0 8 (some 46) ?_
     refine pU0 9 (some 47) ?_
     refine oM 10 (some 7) fun K hK => ?_
     refine zP ?hg (N := 7) ?hd (cs := #[.slice none 0 0, .slice none 0 0]) (t := 31) ?hr ?_; (case hd => rfl); (case hg => rfl); (case hr => first | (go_simp; done) | (go_simp; rfl))
     intro g7 hg7 w5 hbox hb
     have NA := am (show w.heap.size ≤ g7 from by rw [hg7]; exact HB.1.size)
     have N47 := am (show g4 ≠ g7 from by have := dU HG4.out; omega)
     have SH := am (show b ≠ g7 from by have q := World.block_lt_of_cell? _ _ HCX.1; dsimp only at q; omega)
     replace HNB := am (HNB.out.fresh (Nat.le_of_eq hg7.symm))
     obtain ⟨p1, p2, p3, p4⟩ := kp HG4 HLS HCX HB hb
     clear HG4 HLS HCX HB
     have HG4 := p1
     have HLS := p2
     have HCX := p3
     have HB := p4
     clear p1 p2 p3 p4
     replace HW5 := am (HW5.out.below hb)
     replace HNB := am (HNB.out.below hb)
     have HG7 := am hbox
     clear hbox hb hg7
     refine hK.out _ _ ⟨(aH HG4.out 0).trans rfl, (aH HG4.out 1).trans rfl, HCX.1⟩ (fun hHeld => ?_)
     clear hK K
     refine nM ?_
     exact uN LS (hCont (.slice (some ⟨b5, 0, none⟩) pc.length c5_, u0, u1, g7) _ ⟨hHeld, HNB.out, HG4.out, HG7.out, NA.1, N47.out, SH.1, HLS.out, HB.1⟩)
    refine zP ?hg (N := 7) ?hd (cs := #[.slice none 0 0, .slice none 0 0]) (t := 31) ?hr ?_; (case hd => rfl); (case hg => rfl); (case hr => first | (go_simp; done) | (go_simp; rfl))
    intro g7 hg7 w4 hbox hb
    have NA := am (show w.heap.size ≤ g7 from by rw [hg7]; exact HB.1.size)
    have N47 := am (show g4 ≠ g7 from by have := dU HG4.out; omega)
    have SH := am (show b ≠ g7 from by have q := World.block_lt_of_cell? _ _ HCX.1; dsimp only at q; omega)
    replace HBV := am (HBV.out.fresh (Nat.le_of_eq hg7.symm))
    obtain ⟨p1, p2, p3, p4⟩ := kp HG4 HLS HCX HB hb
    clear HG4 HLS HCX HB
    have HG4 := p1
    have HLS := p2
    have HCX := p3
    have HB := p4
    clear p1 p2 p3 p4
    replace HW5 := am (HW5.out.below hb)
    replace HBV := am (HBV.out.below hb)
    have HG7 := am hbox
    clear hbox hb hg7
    refine hK.out _ _ ⟨(aH HG4.out 0).trans rfl, (aH HG4.out 1).trans rfl, HCX.1⟩ (fun hHeld => ?_)
    clear hK K
    refine nM ?_
    refine oM 6 (some 45) fun K hK => ?_
    refine kF Tryz.func9 (by kernel_rfl) rfl #[.agg #[.slice A0 o1.length c0, .slice A1 o2.length c1], .slice (some ⟨b5, 0, none⟩) pc.length c5_] (by rfl) rfl rfl n7 ?_
    have hL := sZ HBV.out (fun k hk => ⟨by have := dU HG4.out; omega, by have := dU HG7.out; omega⟩) HW5.out HPC.out.1 HPC.out.2 HBD.out
    rw [HNN.out] at hL
    dsimp only at hL
    refine hL.mono ?_
    clear hL
    rintro e_ w5 hA
    obtain ⟨u0, u1, rfl, hbk, hb⟩ := hA
    obtain ⟨p1, p2, p3, p4⟩ := kp HG4 HLS HCX HB hb
    clear HG4 HLS HCX HB
    have HG4 := p1
    have HLS := p2
    have HCX := p3
    have HB := p4
    clear p1 p2 p3 p4
    replace HG7 := am (aV HG7.out hb)
    replace HW5 := am (HW5.out.below hb)
    have HNB := am hbk
    clear hbk hb HBV
    refine ⟨_, rfl, ?_⟩
    refine hK.out _ _ ⟨(aH HG4.out 0).trans rfl, (aH HG4.out 1).trans rfl, HCX.1⟩ (fun hHeld => ?_)
    clear hK K
    refine nM ?_
    refine pU0 7 (some 38) ?_
    refine pU0 8 (some 46) ?_
    refine pU0 9 (some 47) ?_
    exact uN LS (hCont (.slice (some ⟨b5, 0, none⟩) pc.length c5_, u0, u1, g7) _ ⟨hHeld, HNB.out, HG4.out, HG7.out, NA.1, N47.out, SH.1, HLS.out, HB.1⟩)
   refine zP ?hg (N := 7) ?hd (cs := #[.slice none 0 0, .slice none 0 0]) (t := 31) ?hr ?_; (case hd => rfl); (case hg => rfl); (case hr => first | (go_simp; done) | (go_simp; rfl))
   intro g7 hg7 w3 hbox hb
   have NA := am (show w.heap.size ≤ g7 from by rw [hg7]; exact HB.1.size)
   have N47 := am (show g4 ≠ g7 from by have := dU HG4.out; omega)
   have SH := am (show b ≠ g7 from by have q := World.block_lt_of_cell? _ _ HCX.1; dsimp only at q; omega)
   replace HBV := am (HBV.out.fresh (Nat.le_of_eq hg7.symm))
   obtain ⟨p1, p2, p3, p4⟩ := kp HG4 HLS HCX HB hb
   clear HG4 HLS HCX HB
   have HG4 := p1
   have HLS := p2
   have HCX := p3
   have HB := p4
   clear p1 p2 p3 p4
   replace HBV := am (HBV.out.below hb)
   have HG7 := am hbox
   clear hbox hb hg7
   refine hK.out _ _ ⟨(aH HG4.out 0).trans rfl, (aH HG4.out 1).trans rfl, HCX.1⟩ (fun hHeld => ?_)
   clear hK K
   refine nM ?_
   refine oM 5 (some 44) fun K hK => ?_
   refine kF Tryz.func8 (by kernel_rfl) rfl #[.string li, .int .u8 32] (by rfl) rfl rfl n7 ?_
   refine (HCUT5.1 _).mono ?_
   rintro e_ w4 ⟨b5, c5_, rfl, hws, _, hb⟩
   obtain ⟨p1, p2, p3, p4⟩ := kp HG4 HLS HCX HB hb
   clear HG4 HLS HCX HB
   have HG4 := p1
   have HLS := p2
   have HCX := p3
   have HB := p4
   clear p1 p2 p3 p4
   replace HG7 := am (aV HG7.out hb)
   replace HBV := am (HBV.out.below hb)
   have HW5 := am hws
   clear hws hb
   refine ⟨_, rfl, ?_⟩
   refine hK.out _ _ ⟨(aH HG4.out 0).trans rfl, (aH HG4.out 1).trans rfl, HCX.1⟩ (fun hHeld => ?_)
   clear hK K
   refine nM ?_
   refine oM 6 (some 45) fun K hK => ?_
   refine kF Tryz.func9 (by kernel_rfl) rfl #[.agg #[.slice A0 o1.length c0, .slice A1 o2.length c1], .slice (some ⟨b5, 0, none⟩) pc.length c5_] (by rfl) rfl rfl n7 ?_
   have hL := sZ HBV.out (fun k hk => ⟨by have := dU HG4.out; omega, by have := dU HG7.out; omega⟩) HW5.out HPC.out.1 HPC.out.2 HBD.out
   rw [HNN.out] at hL
   dsimp only at hL
   refine hL.mono ?_
   clear hL
   rintro e_ w5 hA
   obtain ⟨u0, u1, rfl, hbk, hb⟩ := hA
   obtain ⟨p1, p2, p3, p4⟩ := kp HG4 HLS HCX HB hb
   clear HG4 HLS HCX HB
   have HG4 := p1
   have HLS := p2
   have HCX := p3
   have HB := p4
   clear p1 p2 p3 p4
   replace HG7 := am (aV HG7.out hb)
   replace HW5 := am (HW5.out.below hb)
   have HNB := am hbk
   clear hbk hb HBV
   refine ⟨_, rfl, ?_⟩
   refine hK.out _ _ ⟨(aH HG4.out 0).trans rfl, (aH HG4.out 1).trans rfl, HCX.1⟩ (fun hHeld => ?_)
   clear hK K
   refine nM ?_
   refine pU0 7 (some 38) ?_
   refine pU0 8 (some 46) ?_
   refine pU0 9 (some 47) ?_
   exact uN LS (hCont (.slice (some ⟨b5, 0, none⟩) pc.length c5_, u0, u1, g7) _ ⟨hHeld, HNB.out, HG4.out, HG7.out, NA.1, N47.out, SH.1, HLS.out, HB.1⟩)
  rintro ⟨v44, u0, u1, g7⟩ w6 ⟨hHeld, hnb, hg4, hg7, hge, hn4, Jb, hls, hb⟩
  dsimp only at hnb hg4 hg7 hge hn4 Jb hls hb hHeld
  clear HG4 HBV HLS HB HCX
  obtain ⟨B0, d0, B1, d1, rfl, rfl⟩ := hnb.slices
  have HNB := am hnb
  have HG4 := am hg4
  have HG7 := am hg7
  have NA := am hge
  have HLS := am hls
  have HB := am hb
  have N47 := am hn4
  have SH := am Jb
  clear hnb hg4 hg7 hge hls hb
  refine uN (a' := ?_) ?_ ?_
  rotate_left
  ·simp only [D7, Act.put, List.setIfInBounds_toArray, List.set_cons_zero, List.set_cons_succ]
   rfl
  refine oM 11 none fun K hK => ?_
  have e0 : w6.cell? ⟨g7, 0, none⟩ = some (.slice none 0 0) := (aH HG7.out 0).trans rfl
  have e1 : w6.cell? ⟨g7, 1, none⟩ = some (.slice none 0 0) := (aH HG7.out 1).trans rfl
  have e2 := bL HG7.out 0
  have e3 := bL HG7.out 1
  have hq1 := N47.out.symm
  refine qJ (w1 := ?_) (by rfl) rfl ?_ ?_
  rotate_left
  ·go_simp
   rfl
  refine hK.out _ _ ⟨(cell_far (p := ⟨g7, _, none⟩) N47.out _).trans ((cell_far (p := ⟨g7, _, none⟩) N47.out _).trans hHeld.1), (cell_far (p := ⟨g7, _, none⟩) N47.out _).trans ((cell_far (p := ⟨g7, _, none⟩) N47.out _).trans hHeld.2.1), (cell_far (p := ⟨g7, _, none⟩) SH.1 _).trans ((cell_far (p := ⟨g7, _, none⟩) SH.1 _).trans hHeld.2.2)⟩ (fun hHeld => ?_)
  clear hK K
  refine pU0 12 (some 8) ?_
  refine qO (by kernel_rfl) ?_
  clear hHeld
  have k0 : w6.cell? ⟨g4, 0, none⟩ = some (.slice A0 o1.length c0) := (aH HG4.out 0).trans rfl
  have k1 : w6.cell? ⟨g4, 1, none⟩ = some (.slice A1 o2.length c1) := (aH HG4.out 1).trans rfl
  have k2 := bL HG4.out 0
  have k3 := bL HG4.out 1
  go_wp2
  go_roundg (fl.length - (x.toNat + 1))
  case measure => have := HGG.out; have := HXI.out; omega
  have hw : wrap64 (x + 1) = x + 1 := by have := HXI.out; have := HLL.out.1; have := HK.out; unfold wrap64; omega
  have e9 : (x + 1).toNat = x.toNat + 1 := by have := HXI.out; omega
  have p7 := HNB.out.kept (Kept.two (w := w6) (g := g7) 0 1 (.slice B0 n1.length d0) (.slice B1 n2.length d1)) (fun k hk e => hk.2 e)
  have p4 := p7.kept (Kept.two (g := g4) 0 1 (.slice B0 n1.length d0) (.slice B1 n2.length d1)) (fun k hk e => hk.1 e)
  refine ⟨x + 1, (ou ++ an) ++ (⟨#[10]⟩ : ByteArray), n1, n2, .slice B0 n1.length d0, .slice B1 n2.length d1, by first | rfl | rw [hw] | (simp only [hw]; done), rfl, ⟨by have := HXI.out; omega, by have := HXI.out; omega⟩, by have := HXI.out; omega, ⟨by rw [e9]; exact HST.out⟩, ⟨p4.wk (fun k hk => hk.1)⟩, ⟨?_⟩, ⟨?_⟩, ⟨?_⟩⟩
  ·exact bD (cs := #[.slice B0 n1.length d0, .slice A1 o2.length c1]) (bD (cs := #[.slice A0 o1.length c0, .slice A1 o2.length c1]) (eX (eX HG4.out (p := ⟨g7, 0, none⟩) N47.out _) (p := ⟨g7, 1, none⟩) N47.out _) 0 _ rfl) 1 _ rfl
  ·exact (HLS.out.far SH.1).far HBLT.out
  exact aJ (aJ (aJ (aJ HB.1 NA.1) NA.1) HGW.out) HGW.out
 have c5b : decide (x < (m : Int)) = false := decide_eq_false (by omega)
 have ex : x.toNat = fl.length := by omega
 have HV := am (show ou = (runR (p.take m)).2.2 from by have e := HRR.1; rw [ex, List.take_length, HFL.out] at e; rw [e])
 clear EI MQ c5 hgg hfk ex
 go_wp2
 go_ret
 exact ⟨by rw [HV.out]; rfl, HB.1⟩
set_option maxHeartbeats 4000000 in
set_option maxRecDepth 100000 in
theorem DD {text : ByteArray} {p : List ByteArray} {m : Nat} {w : World} (hs : text.size ≤ 1048576) (hp : pieces text ⟨#[10]⟩ = p) (hl : p.length = m + 1) (hlast : ((gS p m).toList == ([] : List UInt8)) = false) (hq : 8000 < text.size ∨ ¬ 8000 < text.size ∧ 200 < (m + 1)) :
  Calls Tryz.prog 5 #[.string text] w fun e w' => e = .returned (.string (⟨#[116, 111, 111, 32, 108, 111, 110, 103, 10]⟩ : ByteArray)) ∧ Below w.heap.size w w' := by
 have hbig := mP 10 text
 rw [hp, hl] at hbig
 have hsp := UN text w hs
 rw [hp, hl] at hsp
 have HSP := am hsp
 clear hsp
 have HL := am (show p.length = m + 1 ∧ (∀ x ∈ p, x.size ≤ text.size) from ⟨hl, fun x hx => oV (hp ▸ hx)⟩)
 clear hp hl
 have hu31 := Tryz.underlying31
 have hu27 := Tryz.underlying27
 have hb1 : m ≤ 1048576 := by omega
 clear hbig
 have g1 : ((m : Int) < (m : Int) + 1) = True := eq_true (by omega)
 have g2 : (m < m + 1) = True := eq_true (by omega)
 have QZ : ((gS p m).toList != ([] : List UInt8)) = true := by simp only [bne, hlast]; rfl
 clear hs
 rcases hq with hz | ⟨hz, hk⟩
 ·have z1 : decide (8000 < (text.size : Int)) = true := decide_eq_true (by omega)
  have z2 : decide (8000 < text.size) = true := decide_eq_true (by omega)
  clear hz
  go_enter Tryz.func5, Tryz.ntmps5
  go_wp2_with (first | (go_at_call 8; refine HSP.out.mono ?_; rintro e_ w1 ⟨b, c, rfl, hws, hbl, hb⟩; have HWS := am hws; have HB1 := am hb; have HBL := am hbl; have x0 := hws.cell m (by rw [HL.out.1]; omega); clear hws hb hbl))
  go_ret
  exact ⟨rfl, HB1.out⟩
 have z1 : decide (8000 < (text.size : Int)) = false := decide_eq_false (by omega)
 have z2 : decide (8000 < text.size) = false := decide_eq_false (by omega)
 have z3 : decide (200 < ((m : Int) + 1)) = true := decide_eq_true (by omega)
 have z4 : decide (200 < (m + 1)) = true := decide_eq_true (by omega)
 clear hz hk
 go_enter Tryz.func5, Tryz.ntmps5
 go_wp2_with (first | (go_at_call 8; refine HSP.out.mono ?_; rintro e_ w1 ⟨b, c, rfl, hws, hbl, hb⟩; have HWS := am hws; have HB1 := am hb; have HBL := am hbl; have x0 := hws.cell m (by rw [HL.out.1]; omega); clear hws hb hbl))
 go_ret
 exact ⟨rfl, HB1.out⟩
set_option maxHeartbeats 4000000 in
set_option maxRecDepth 100000 in
theorem Q5 {text : ByteArray} {p : List ByteArray} {m : Nat} {w : World} (hs : text.size ≤ 1048576) (hp : pieces text ⟨#[10]⟩ = p) (hl : p.length = m + 1) (hlast : ((gS p m).toList == ([] : List UInt8)) = false) (hz : ¬ 8000 < text.size) (hk : ¬ 200 < (m + 1)) :
  Calls Tryz.prog 5 #[.string text] w fun e w' => e = .returned (.string (runR p).2.2) ∧ Below w.heap.size w w' := by
 have hbig := mP 10 text
 rw [hp, hl] at hbig
 have hsp := UN text w hs
 rw [hp, hl] at hsp
 have HSP := am hsp
 clear hsp
 have HL := am (show p.length = m + 1 ∧ (∀ x ∈ p, x.size ≤ text.size) from ⟨hl, fun x hx => oV (hp ▸ hx)⟩)
 clear hp hl
 have hu31 := Tryz.underlying31
 have hu27 := Tryz.underlying27
 have hb1 : m ≤ 1048576 := by omega
 clear hbig
 have g1 : ((m : Int) < (m : Int) + 1) = True := eq_true (by omega)
 have g2 : (m < m + 1) = True := eq_true (by omega)
 have QZ : ((gS p m).toList != ([] : List UInt8)) = true := by simp only [bne, hlast]; rfl
 have z1 : decide (8000 < (text.size : Int)) = false := decide_eq_false (by omega)
 have z2 : decide (8000 < text.size) = false := decide_eq_false (by omega)
 have HZ := am hz
 clear hs
 have z3 : decide (200 < ((m : Int) + 1)) = false := decide_eq_false (by omega)
 have z4 : decide (200 < (m + 1)) = false := decide_eq_false (by omega)
 have HK := am hk
 clear hk hz
 have HLL := am (show (p).length = (m + 1) ∧ ∀ x ∈ p, x.size ≤ 8000 from by
  have h1 := HL.out.1
  have h3 := HZ.out
  refine ⟨h1, fun x hx => ?_⟩
  have := HL.out.2 x (hx); omega)
 obtain ⟨fl, hfl⟩ : ∃ fl, fl = p := ⟨_, rfl⟩
 rw [← hfl] at HLL
 have HFL := am hfl
 clear hfl
 go_enter Tryz.func5, Tryz.ntmps5
 go_wp2_with (first | (go_at_call 8; refine HSP.out.mono ?_; rintro e_ w1 ⟨b, c, rfl, hws, hbl, hb⟩; have HWS := am hws; have HB1 := am hb; have HBL := am hbl; have x0 := hws.cell m (by rw [HL.out.1]; omega); clear hws hb hbl) | ((with_reducible refine dF (N := 4) rfl ?_); (refine dX ?hg (N := 4) ?hd (cs := #[.slice none 0 0, .slice none 0 0]) (t := 31) ?hr ?_; (case hd => rfl); (case hg => rfl); (case hr => first | (go_simp; done) | (go_simp; rfl)); intro g4 hgg w2 hbox hb; have HG := am hbox; have HGE := am (show w1.heap.size ≤ g4 from Nat.le_of_eq hgg.symm); have HB2 := am (dG HB1.out hb); have HW2 := am (HWS.out.below hb); have k0 : w2.cell? ⟨g4, 0, none⟩ = some (.slice none 0 0) := (aH hbox 0).trans rfl; have k1 : w2.cell? ⟨g4, 1, none⟩ = some (.slice none 0 0) := (aH hbox 1).trans rfl; have k2 := bL hbox 0; have k3 := bL hbox 1; clear hbox hb hgg x0)))
 have HBLT := am (show b ≠ g4 from by have q := World.block_lt_of_cell? w1 _ (HWS.out.cell 0 (by have := HL.out.1; omega)); have q2 := HGE.out; dsimp only at q; omega)
 have HGW := am (show w.heap.size ≤ g4 from Nat.le_trans HB1.out.size HGE.out)
 have HCE := am (show Lies w2 b fl from fun i h => by
  have h1 := HLL.out.1
  have h2 := HL.out.1
  have q := HW2.out.cell i (by omega)
  have e : gS p i = fl[i] := by
   have e0 : gS p i = p[i]'(by omega) := getD_lt _ _ _
   rw [e0]
   simp only [HFL.out]
  rw [e] at q
  exact q)
 have HS2 := am (show jW (fun k => k ≠ g4) ((w2.setCell ⟨g4, 0, none⟩ (.slice none 0 0)).setCell ⟨g4, 1, none⟩ (.slice none 0 0)) (.slice none 0 0) (.slice none 0 0) [] [] from ⟨Kd.sS _ _ _ _ _, Kd.sS _ _ _ _ _⟩)
 have HGG4 := am (show ((w2.setCell ⟨g4, 0, none⟩ (.slice none 0 0)).setCell ⟨g4, 1, none⟩ (.slice none 0 0)).heap[g4]? = some (.cells #[.slice none 0 0, .slice none 0 0] 31 (0, 0)) from bD (cs := #[.slice none 0 0, .slice none 0 0]) (bD (cs := #[.slice none 0 0, .slice none 0 0]) HG.out 0 _ rfl) 1 _ rfl)
 have HLS2 := am (show Lies ((w2.setCell ⟨g4, 0, none⟩ (.slice none 0 0)).setCell ⟨g4, 1, none⟩ (.slice none 0 0)) b fl from HCE.1.far HBLT.out)
 have HB3 := am (show Below w.heap.size w ((w2.setCell ⟨g4, 0, none⟩ (.slice none 0 0)).setCell ⟨g4, 1, none⟩ (.slice none 0 0)) from aJ (aJ HB2.out HGW.out) HGW.out)
 clear HWS HW2 HG HCE hlast QZ g1 g2 z1 z2 z3 z4 k0 k1 k2 k3
 go_loopg [5, 6] fl.length (fun gg v5 v6 wr => ∃ (x : Int) (ou : ByteArray) (o1 : List ByteArray) (o2 : List MB) (v0 v1 : Value), v6 = .int .i64 x ∧ v5 = .string ou ∧ (0 ≤ x ∧ x ≤ fl.length) ∧ fl.length - x.toNat ≤ gg ∧ aD (runR (fl.take x.toNat) = (o1, o2, ou)) ∧ aD (jW (fun k => k ≠ g4) wr v0 v1 o1 o2) ∧ aD (wr.heap[g4]? = some (.cells #[v0, v1] 31 (0, 0))) ∧ aD (Lies wr b fl) ∧ aD (Below w.heap.size w wr))
 case atStart => exact ⟨0, (⟨#[]⟩ : ByteArray), [], [], _, _, rfl, rfl, ⟨by omega, by omega⟩, by simp, ⟨rfl⟩, HS2, HGG4, HLS2, HB3⟩
 clear HS2 HGG4 HLS2 HB3 HB2
 obtain ⟨x, ou, o1, o2, v0, v1, rfl, rfl, ⟨EI, MQ⟩, hgg, HRR, HBV, HG4, HLS, HB⟩ := hrel
 obtain ⟨A0, c0, A1, c1, rfl, rfl⟩ := HBV.out.slices
 have hfk : (fl.length : Int) = ((m : Int) + 1) := by have := HLL.out.1; omega
 have HGG := am hgg
 by_cases c5 : x < (fl.length : Int)
 ·have HXI := am (show 0 ≤ x ∧ x < (fl.length : Int) from ⟨EI, c5⟩)
  have hxn : x.toNat < fl.length := by omega
  obtain ⟨li, hli⟩ : ∃ li, li = fl[x.toNat] := ⟨_, rfl⟩
  have x0 := HLS.out x.toNat hxn
  rw [← hli] at x0
  have HLI := am (show li ∈ fl from hli ▸ List.getElem_mem _)
  obtain ⟨hg1, hg2⟩ := D8 fl x.toNat (by omega)
  have hst := D9 fl hxn
  rw [← hli, HRR.1] at hst
  rw [HRR.1] at hg1 hg2
  dsimp only at hg1 hg2
  obtain ⟨pc, hpc⟩ : ∃ pc, pieces li ⟨#[32]⟩ = pc := ⟨_, rfl⟩
  have hln := AC hg1 pc
  obtain ⟨n1, n2, an, hnn⟩ : ∃ n1 n2 an, eG o1 o2 pc = (n1, n2, an) := ⟨_, _, _, rfl⟩
  unfold V3 at hln
  rw [hnn] at hln
  dsimp only at hln
  have HST := am (show runR (fl.take (x.toNat + 1)) = (n1, n2, (ou ++ an) ++ (⟨#[10]⟩ : ByteArray)) from by rw [hst, P6, hpc, hnn, ByteArray.append_assoc])
  have hsz := HLL.out.2 li HLI.out
  have HCUT5 := am (fun w => hpc ▸ Kt li w (by omega))
  have HPC := am (show 0 < pc.length ∧ pc.length ≤ 8001 from by
   have q1 := mP 32 li
   have q2 := List.length_pos_iff.2 (sW 32 li)
   rw [hpc] at q1 q2
   exact ⟨q2, by omega⟩)
  have HNN := am hnn
  have HBD := am hg1
  have hfl2 : fl.length ≤ 201 := by have := HLL.out.1; have := HK.out; omega
  have hou : ou.size ≤ 2001 * 201 := by have := HXI.out; exact Nat.le_trans hg2 (Nat.mul_le_mul_left _ (by omega))
  have q1 : (9223372036854775807 < ou.size + an.size) = False := eq_false (by have := hln.2; omega)
  have q2 : (9223372036854775807 < ou.size + an.size + 1) = False := eq_false (by have := hln.2; omega)
  have q3 : (9223372036854775807 < (ou ++ an).size + 1) = False := eq_false (by have := hln.2; rw [ByteArray.size_append]; omega)
  have c5b : decide (x < ((m : Int) + 1)) = true := decide_eq_true (by omega)
  have c5c : (x < ((m : Int) + 1)) = True := eq_true (by omega)
  have c5d : ((0 : Int) ≤ x) = True := eq_true EI
  have HXN := am hxn
  clear hli hst hnn hpc hln hg1 hg2 hou hxn c5 EI MQ hgg hfk hfl2 hsz
  try go_wp2
  have HG4d := am (dM HG4.out)
  have HBVd := am (HBV.out.below (aU (Below.refl _ _)))
  have HLSd := am (HLS.out.below (aU (Below.refl _ _)))
  have HBd := am (aU HB.1)
  have HCXd := am (show wr.drew.cell? ⟨b, x.toNat, none⟩ = some (.string li) from x0)
  clear HG4 HBV HLS HB x0
  refine sT (S := fun w' => w'.cell? ⟨g4, 0, none⟩ = some (.slice A0 o1.length c0) ∧ w'.cell? ⟨g4, 1, none⟩ = some (.slice A1 o2.length c1) ∧ w'.cell? ⟨b, x.toNat, none⟩ = some (.string li)) [] 13 ⟨⟨(aH HG4d.out 0).trans rfl, (aH HG4d.out 1).trans rfl, HCXd.1⟩⟩ (fun hHeld => ?_)
  generalize wr.drew = w2 at HG4d HBVd HLSd HBd HCXd hHeld ⊢
  have HG4 := HG4d
  have HBV := HBVd
  have HLS := HLSd
  have HB := HBd
  have HCX := HCXd
  clear HG4d HBVd HLSd HBd HCXd
  refine pU0 1 (some 40) ?_
  refine pU0 2 (some 41) ?_
  refine pU0 3 (some 42) ?_
  refine tK3_ 0 (some 39) ?_
  refine tK3_ 4 (some 43) ?_
  refine Bw (σ := Value × Value × Value × Nat) 2 (bz 13 2047) (fun s_ => [(44, s_.1), (45, .tuple #[.agg #[s_.2.1, s_.2.2.1], .string an]), (7, .pointer (some ⟨s_.2.2.2, 0, none⟩)), (38, .tuple #[.agg #[s_.2.1, s_.2.2.1], .string an]), (46, .agg #[s_.2.1, s_.2.2.1]), (47, .string an)]) (fun s_ w' => (w'.cell? ⟨g4, 0, none⟩ = some (.slice A0 o1.length c0) ∧ w'.cell? ⟨g4, 1, none⟩ = some (.slice A1 o2.length c1) ∧ w'.cell? ⟨b, x.toNat, none⟩ = some (.string li)) ∧ jW (fun k => k ≠ g4 ∧ k ≠ s_.2.2.2) w' s_.2.1 s_.2.2.1 n1 n2 ∧ w'.heap[g4]? = some (.cells #[.slice A0 o1.length c0, .slice A1 o2.length c1] 31 (0, 0)) ∧ w'.heap[s_.2.2.2]? = some (.cells #[.slice none 0 0, .slice none 0 0] 31 (0, 0)) ∧ w.heap.size ≤ s_.2.2.2 ∧ g4 ≠ s_.2.2.2 ∧ b ≠ s_.2.2.2 ∧ Lies w' b fl ∧ Below w.heap.size w w') ?_ ?_
  rotate_left
  ·intro hCont
   refine two_ (i := 5) (j := 10) (Ni := some 44) (Nj := some 7) (bz 13 63) (bz 13 1055) rfl rfl rfl rfl (by kernel_rfl) (by decide) (by decide) (fun K hK => ?_) (fun K hK => ?_)
   ·refine kF Tryz.func8 (by kernel_rfl) rfl #[.string li, .int .u8 32] (by rfl) rfl rfl n7 ?_
    refine (HCUT5.1 _).mono ?_
    rintro e_ w3 ⟨b5, c5_, rfl, hws, _, hb⟩
    obtain ⟨p1, p2, p3, p4⟩ := kp HG4 HLS HCX HB hb
    clear HG4 HLS HCX HB
    have HG4 := p1
    have HLS := p2
    have HCX := p3
    have HB := p4
    clear p1 p2 p3 p4
    replace HBV := am (HBV.out.below hb)
    have HW5 := am hws
    clear hws hb
    refine ⟨_, rfl, ?_⟩
    refine hK.out _ _ ⟨(aH HG4.out 0).trans rfl, (aH HG4.out 1).trans rfl, HCX.1⟩ (fun hHeld => ?_)
    clear hK K
    refine nM ?_
    refine two_ (i := 6) (j := 10) (Ni := some 45) (Nj := some 7) (bz 13 127) (bz 13 1087) rfl rfl rfl rfl (by kernel_rfl) (by decide) (by decide) (fun K hK => ?_) (fun K hK => ?_)
    ·refine kF Tryz.func9 (by kernel_rfl) rfl #[.agg #[.slice A0 o1.length c0, .slice A1 o2.length c1], .slice (some ⟨b5, 0, none⟩) pc.length c5_] (by rfl) rfl rfl n7 ?_
     have hL := sZ HBV.out (fun k hk => by have := dU HG4.out; omega) HW5.out HPC.out.1 HPC.out.2 HBD.out
     rw [HNN.out] at hL
     dsimp only at hL
     refine hL.mono ?_
     clear hL
     rintro e_ w4 hA
     obtain ⟨u0, u1, rfl, hbk, hb⟩ := hA
     obtain ⟨p1, p2, p3, p4⟩ := kp HG4 HLS HCX HB hb
     clear HG4 HLS HCX HB
     have HG4 := p1
     have HLS := p2
     have HCX := p3
     have HB := p4
     clear p1 p2 p3 p4
     replace HW5 := am (HW5.out.below hb)
     have HNB := am hbk
     clear hbk hb HBV
     refine ⟨_, rfl, ?_⟩
     refine hK.out _ _ ⟨(aH HG4.out 0).trans rfl, (aH HG4.out 1).trans rfl, HCX.1⟩ (fun hHeld => ?_)
     clear hK K
     refine nM ?_
     refine pU0 7 (some 38) ?_
     refine pU0 8 (some 46) ?_
     refine pU0 9 (some 47) ?_
     refine oM 10 (some 7) fun K hK => ?_
     refine zP ?hg (N := 7) ?hd (cs := #[.slice none 0 0, .slice none 0 0]) (t := 31) ?hr ?_; (case hd => rfl); (case hg => rfl); (case hr => first | (go_simp; done) | (go_simp; rfl))
     intro g7 hg7 w5 hbox hb
     have NA := am (show w.heap.size ≤ g7 from by rw [hg7]; exact HB.1.size)
     have N47 := am (show g4 ≠ g7 from by have := dU HG4.out; omega)
     have SH := am (show b ≠ g7 from by have q := World.block_lt_of_cell? _ _ HCX.1; dsimp only at q; omega)
     replace HNB := am (HNB.out.fresh (Nat.le_of_eq hg7.symm))
     obtain ⟨p1, p2, p3, p4⟩ := kp HG4 HLS HCX HB hb
     clear HG4 HLS HCX HB
     have HG4 := p1
     have HLS := p2
     have HCX := p3
     have HB := p4
     clear p1 p2 p3 p4
     replace HW5 := am (HW5.out.below hb)
     replace HNB := am (HNB.out.below hb)
     have HG7 := am hbox
     clear hbox hb hg7
     refine hK.out _ _ ⟨(aH HG4.out 0).trans rfl, (aH HG4.out 1).trans rfl, HCX.1⟩ (fun hHeld => ?_)
     clear hK K
     refine nM ?_
     exact uN LS (hCont (.slice (some ⟨b5, 0, none⟩) pc.length c5_, u0, u1, g7) _ ⟨hHeld, HNB.out, HG4.out, HG7.out, NA.1, N47.out, SH.1, HLS.out, HB.1⟩)
    refine zP ?hg (N := 7) ?hd (cs := #[.slice none 0 0, .slice none 0 0]) (t := 31) ?hr ?_; (case hd => rfl); (case hg => rfl); (case hr => first | (go_simp; done) | (go_simp; rfl))
    intro g7 hg7 w4 hbox hb
    have NA := am (show w.heap.size ≤ g7 from by rw [hg7]; exact HB.1.size)
    have N47 := am (show g4 ≠ g7 from by have := dU HG4.out; omega)
    have SH := am (show b ≠ g7 from by have q := World.block_lt_of_cell? _ _ HCX.1; dsimp only at q; omega)
    replace HBV := am (HBV.out.fresh (Nat.le_of_eq hg7.symm))
    obtain ⟨p1, p2, p3, p4⟩ := kp HG4 HLS HCX HB hb
    clear HG4 HLS HCX HB
    have HG4 := p1
    have HLS := p2
    have HCX := p3
    have HB := p4
    clear p1 p2 p3 p4
    replace HW5 := am (HW5.out.below hb)
    replace HBV := am (HBV.out.below hb)
    have HG7 := am hbox
    clear hbox hb hg7
    refine hK.out _ _ ⟨(aH HG4.out 0).trans rfl, (aH HG4.out 1).trans rfl, HCX.1⟩ (fun hHeld => ?_)
    clear hK K
    refine nM ?_
    refine oM 6 (some 45) fun K hK => ?_
    refine kF Tryz.func9 (by kernel_rfl) rfl #[.agg #[.slice A0 o1.length c0, .slice A1 o2.length c1], .slice (some ⟨b5, 0, none⟩) pc.length c5_] (by rfl) rfl rfl n7 ?_
    have hL := sZ HBV.out (fun k hk => ⟨by have := dU HG4.out; omega, by have := dU HG7.out; omega⟩) HW5.out HPC.out.1 HPC.out.2 HBD.out
    rw [HNN.out] at hL
    dsimp only at hL
    refine hL.mono ?_
    clear hL
    rintro e_ w5 hA
    obtain ⟨u0, u1, rfl, hbk, hb⟩ := hA
    obtain ⟨p1, p2, p3, p4⟩ := kp HG4 HLS HCX HB hb
    clear HG4 HLS HCX HB
    have HG4 := p1
    have HLS := p2
    have HCX := p3
    have HB := p4
    clear p1 p2 p3 p4
    replace HG7 := am (aV HG7.out hb)
    replace HW5 := am (HW5.out.below hb)
    have HNB := am hbk
    clear hbk hb HBV
    refine ⟨_, rfl, ?_⟩
    refine hK.out _ _ ⟨(aH HG4.out 0).trans rfl, (aH HG4.out 1).trans rfl, HCX.1⟩ (fun hHeld => ?_)
    clear hK K
    refine nM ?_
    refine pU0 7 (some 38) ?_
    refine pU0 8 (some 46) ?_
    refine pU0 9 (some 47) ?_
    exact uN LS (hCont (.slice (some ⟨b5, 0, none⟩) pc.length c5_, u0, u1, g7) _ ⟨hHeld, HNB.out, HG4.out, HG7.out, NA.1, N47.out, SH.1, HLS.out, HB.1⟩)
   refine zP ?hg (N := 7) ?hd (cs := #[.slice none 0 0, .slice none 0 0]) (t := 31) ?hr ?_; (case hd => rfl); (case hg => rfl); (case hr => first | (go_simp; done) | (go_simp; rfl))
   intro g7 hg7 w3 hbox hb
   have NA := am (show w.heap.size ≤ g7 from by rw [hg7]; exact HB.1.size)
   have N47 := am (show g4 ≠ g7 from by have := dU HG4.out; omega)
   have SH := am (show b ≠ g7 from by have q := World.block_lt_of_cell? _ _ HCX.1; dsimp only at q; omega)
   replace HBV := am (HBV.out.fresh (Nat.le_of_eq hg7.symm))
   obtain ⟨p1, p2, p3, p4⟩ := kp HG4 HLS HCX HB hb
   clear HG4 HLS HCX HB
   have HG4 := p1
   have HLS := p2
   have HCX := p3
   have HB := p4
   clear p1 p2 p3 p4
   replace HBV := am (HBV.out.below hb)
   have HG7 := am hbox
   clear hbox hb hg7
   refine hK.out _ _ ⟨(aH HG4.out 0).trans rfl, (aH HG4.out 1).trans rfl, HCX.1⟩ (fun hHeld => ?_)
   clear hK K
   refine nM ?_
   refine oM 5 (some 44) fun K hK => ?_
   refine kF Tryz.func8 (by kernel_rfl) rfl #[.string li, .int .u8 32] (by rfl) rfl rfl n7 ?_
   refine (HCUT5.1 _).mono ?_
   rintro e_ w4 ⟨b5, c5_, rfl, hws, _, hb⟩
   obtain ⟨p1, p2, p3, p4⟩ := kp HG4 HLS HCX HB hb
   clear HG4 HLS HCX HB
   have HG4 := p1
   have HLS := p2
   have HCX := p3
   have HB := p4
   clear p1 p2 p3 p4
   replace HG7 := am (aV HG7.out hb)
   replace HBV := am (HBV.out.below hb)
   have HW5 := am hws
   clear hws hb
   refine ⟨_, rfl, ?_⟩
   refine hK.out _ _ ⟨(aH HG4.out 0).trans rfl, (aH HG4.out 1).trans rfl, HCX.1⟩ (fun hHeld => ?_)
   clear hK K
   refine nM ?_
   refine oM 6 (some 45) fun K hK => ?_
   refine kF Tryz.func9 (by kernel_rfl) rfl #[.agg #[.slice A0 o1.length c0, .slice A1 o2.length c1], .slice (some ⟨b5, 0, none⟩) pc.length c5_] (by rfl) rfl rfl n7 ?_
   have hL := sZ HBV.out (fun k hk => ⟨by have := dU HG4.out; omega, by have := dU HG7.out; omega⟩) HW5.out HPC.out.1 HPC.out.2 HBD.out
   rw [HNN.out] at hL
   dsimp only at hL
   refine hL.mono ?_
   clear hL
   rintro e_ w5 hA
   obtain ⟨u0, u1, rfl, hbk, hb⟩ := hA
   obtain ⟨p1, p2, p3, p4⟩ := kp HG4 HLS HCX HB hb
   clear HG4 HLS HCX HB
   have HG4 := p1
   have HLS := p2
   have HCX := p3
   have HB := p4
   clear p1 p2 p3 p4
   replace HG7 := am (aV HG7.out hb)
   replace HW5 := am (HW5.out.below hb)
   have HNB := am hbk
   clear hbk hb HBV
   refine ⟨_, rfl, ?_⟩
   refine hK.out _ _ ⟨(aH HG4.out 0).trans rfl, (aH HG4.out 1).trans rfl, HCX.1⟩ (fun hHeld => ?_)
   clear hK K
   refine nM ?_
   refine pU0 7 (some 38) ?_
   refine pU0 8 (some 46) ?_
   refine pU0 9 (some 47) ?_
   exact uN LS (hCont (.slice (some ⟨b5, 0, none⟩) pc.length c5_, u0, u1, g7) _ ⟨hHeld, HNB.out, HG4.out, HG7.out, NA.1, N47.out, SH.1, HLS.out, HB.1⟩)
  rintro ⟨v44, u0, u1, g7⟩ w6 ⟨hHeld, hnb, hg4, hg7, hge, hn4, Jb, hls, hb⟩
  dsimp only at hnb hg4 hg7 hge hn4 Jb hls hb hHeld
  clear HG4 HBV HLS HB HCX
  obtain ⟨B0, d0, B1, d1, rfl, rfl⟩ := hnb.slices
  have HNB := am hnb
  have HG4 := am hg4
  have HG7 := am hg7
  have NA := am hge
  have HLS := am hls
  have HB := am hb
  have N47 := am hn4
  have SH := am Jb
  clear hnb hg4 hg7 hge hls hb
  refine uN (a' := ?_) ?_ ?_
  rotate_left
  ·simp only [D7, Act.put, List.setIfInBounds_toArray, List.set_cons_zero, List.set_cons_succ]
   rfl
  refine oM 11 none fun K hK => ?_
  have e0 : w6.cell? ⟨g7, 0, none⟩ = some (.slice none 0 0) := (aH HG7.out 0).trans rfl
  have e1 : w6.cell? ⟨g7, 1, none⟩ = some (.slice none 0 0) := (aH HG7.out 1).trans rfl
  have e2 := bL HG7.out 0
  have e3 := bL HG7.out 1
  have hq1 := N47.out.symm
  refine qJ (w1 := ?_) (by rfl) rfl ?_ ?_
  rotate_left
  ·go_simp
   rfl
  refine hK.out _ _ ⟨(cell_far (p := ⟨g7, _, none⟩) N47.out _).trans ((cell_far (p := ⟨g7, _, none⟩) N47.out _).trans hHeld.1), (cell_far (p := ⟨g7, _, none⟩) N47.out _).trans ((cell_far (p := ⟨g7, _, none⟩) N47.out _).trans hHeld.2.1), (cell_far (p := ⟨g7, _, none⟩) SH.1 _).trans ((cell_far (p := ⟨g7, _, none⟩) SH.1 _).trans hHeld.2.2)⟩ (fun hHeld => ?_)
  clear hK K
  refine pU0 12 (some 8) ?_
  refine qO (by kernel_rfl) ?_
  clear hHeld
  have k0 : w6.cell? ⟨g4, 0, none⟩ = some (.slice A0 o1.length c0) := (aH HG4.out 0).trans rfl
  have k1 : w6.cell? ⟨g4, 1, none⟩ = some (.slice A1 o2.length c1) := (aH HG4.out 1).trans rfl
  have k2 := bL HG4.out 0
  have k3 := bL HG4.out 1
  go_wp2
  go_roundg (fl.length - (x.toNat + 1))
  case measure => have := HGG.out; have := HXI.out; omega
  have hw : wrap64 (x + 1) = x + 1 := by have := HXI.out; have := HLL.out.1; have := HK.out; unfold wrap64; omega
  have e9 : (x + 1).toNat = x.toNat + 1 := by have := HXI.out; omega
  have p7 := HNB.out.kept (Kept.two (w := w6) (g := g7) 0 1 (.slice B0 n1.length d0) (.slice B1 n2.length d1)) (fun k hk e => hk.2 e)
  have p4 := p7.kept (Kept.two (g := g4) 0 1 (.slice B0 n1.length d0) (.slice B1 n2.length d1)) (fun k hk e => hk.1 e)
  refine ⟨x + 1, (ou ++ an) ++ (⟨#[10]⟩ : ByteArray), n1, n2, .slice B0 n1.length d0, .slice B1 n2.length d1, by first | rfl | rw [hw] | (simp only [hw]; done), rfl, ⟨by have := HXI.out; omega, by have := HXI.out; omega⟩, by have := HXI.out; omega, ⟨by rw [e9]; exact HST.out⟩, ⟨p4.wk (fun k hk => hk.1)⟩, ⟨?_⟩, ⟨?_⟩, ⟨?_⟩⟩
  ·exact bD (cs := #[.slice B0 n1.length d0, .slice A1 o2.length c1]) (bD (cs := #[.slice A0 o1.length c0, .slice A1 o2.length c1]) (eX (eX HG4.out (p := ⟨g7, 0, none⟩) N47.out _) (p := ⟨g7, 1, none⟩) N47.out _) 0 _ rfl) 1 _ rfl
  ·exact (HLS.out.far SH.1).far HBLT.out
  exact aJ (aJ (aJ (aJ HB.1 NA.1) NA.1) HGW.out) HGW.out
 have c5b : decide (x < ((m : Int) + 1)) = false := decide_eq_false (by omega)
 have ex : x.toNat = fl.length := by omega
 have HV := am (show ou = (runR p).2.2 from by have e := HRR.1; rw [ex, List.take_length, HFL.out] at e; rw [e])
 clear EI MQ c5 hgg hfk ex
 go_wp2
 go_ret
 exact ⟨by rw [HV.out]; rfl, HB.1⟩
theorem ZK {text : ByteArray} {w : World} (hs : text.size ≤ 1048576) :
  Calls Tryz.prog 5 #[.string text] w fun e w' => e = .returned (.string (sesR text)) ∧ Below w.heap.size w w' := by
 obtain ⟨p, hp⟩ : ∃ p, pieces text ⟨#[10]⟩ = p := ⟨_, rfl⟩
 have hne := sW 10 text
 rw [hp] at hne
 obtain ⟨m, hl⟩ : ∃ m, p.length = m + 1 := ⟨p.length - 1, by have := List.length_pos_iff.2 hne; omega⟩
 have e1 : p.length - 1 = m := by omega
 have e2 : (p.take m).length = m := by rw [List.length_take]; omega
 by_cases hlast : ((gS p m).toList == ([] : List UInt8)) = true
 ·have ef : zC text = p.take m := by unfold zC; rw [hp, e1, if_pos hlast]
  unfold sesR
  rw [ef, e2]
  by_cases hz : 8000 < text.size
  ·rw [if_pos hz]; exact DF hs hp hl hlast (.inl hz)
  rw [if_neg hz]
  by_cases hk : 200 < m
  ·rw [if_pos hk]; exact DF hs hp hl hlast (.inr ⟨hz, hk⟩)
  rw [if_neg hk]; exact Q6 hs hp hl hlast hz hk
 have ef : zC text = p := by unfold zC; rw [hp, e1, if_neg hlast]
 have hlast := Bool.eq_false_iff.mpr hlast
 unfold sesR
 rw [ef, hl]
 by_cases hz : 8000 < text.size
 ·rw [if_pos hz]; exact DD hs hp hl hlast (.inl hz)
 rw [if_neg hz]
 by_cases hk : 200 < m + 1
 ·rw [if_pos hk]; exact DD hs hp hl hlast (.inr ⟨hz, hk⟩)
 rw [if_neg hk]; exact Q5 hs hp hl hlast hz hk
set_option maxHeartbeats 2000000 in
set_option maxRecDepth 100000 in
theorem U4 (a : ByteArray) {w : World} (hm : jJ w) :
    Calls Tryz.prog 3 #[.string a] w fun e w' => e = .returned (.bool true) ∧ Below w.heap.size w w' := by
 have HM := am hm
 clear hm
 by_cases hz : 1048576 < a.size
 ·have z1 : decide (1048576 < (a.size : Int)) = true := decide_eq_true (by omega)
  have z2 : decide (1048576 < a.size) = true := decide_eq_true hz
  clear hz
  go_enter Tryz.func3, Tryz.ntmps3
  go_wp2_with fail
  go_ret
  exact ⟨rfl, Below.refl _ _⟩
 have z1 : decide (1048576 < (a.size : Int)) = false := decide_eq_false (by omega)
 have z2 : decide (1048576 < a.size) = false := decide_eq_false hz
 have HZ := am (show a.size ≤ 1048576 by omega)
 clear hz
 go_enter Tryz.func3, Tryz.ntmps3
 go_wp2_with (first
   | (go_at_call 5; refine (ZK HZ.out).mono ?_; rintro e_ w1 ⟨rfl, hb⟩; have HB1 := am hb; clear hb)
   | (go_at_call 6; refine (Q4 (HM.out.below (G7 HM.out) (Nat.le_refl _) HB1.out) HZ.out).mono ?_; rintro e_ w2 ⟨rfl, hb⟩; have HB2 := am hb; clear hb))
 go_ret
 exact ⟨rfl, dG HB1.out HB2.out⟩
end Go.Proofs.YtaofjgnhapnndaaGreatDoor.Q
