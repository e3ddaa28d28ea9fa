/- Texts that the row needs: words on memory and rows, the contracts of the functions it reaches, and the plain lemmas on what they compute. -/
import Derived.Below
import Derived.Deep.Draws
import Derived.Deep.AppendLies
import Derived.Maps.AppendAt
import Derived.OwnWalk
import Derived.Laws.BytesArg
import Derived.Laws.MakeOwn
import Derived.Laws.OwnMore
import Derived.Deep.OwnRows
import Derived.Tactics
import Derived.Lib.ConvBytes
import Derived.Laws.Slices
import Derived.WalkKit
import Derived.KernelRfl
import Derived.RowKit3
import Derived.Deep.LoopGhost
import Derived.Deep.QuietTactic
import Derived.BigQuiet
import Derived.WideLaws
import Derived.Deep.DeepCutAuto
import Derived.Deep.CutBlock
import Derived.Deep.RegionHeld3
import Derived.Laws.Rows
import Derived.Lib.AppendStr
import Derived.ArgAppend
import Derived.Laws.IdiomCopy
import Derived.RowKit
import Derived.OrdersHeld
import Derived.Laws.BitsLemmas
import Derived.Laws.StructEq
import Derived.Test.YtaofjgnhapnndaaProg
import Derived.WalkLawsBesides
import Derived.Shelf.Abstract
import Derived.Test.YtaofjgnhapnndaaXMaa
import Derived.Test.YtaofjgnhapnndaaXMab
import Derived.Test.YtaofjgnhapnndaaXMac
import Derived.Test.YtaofjgnhapnndaaXMad
import Derived.Test.YtaofjgnhapnndaaXMae
import Derived.Test.YtaofjgnhapnndaaXMaf
import Derived.Test.YtaofjgnhapnndaaXMag
import Derived.Test.YtaofjgnhapnndaaXMah
import Derived.Test.YtaofjgnhapnndaaXMai
import Derived.Test.YtaofjgnhapnndaaXMaj
import Derived.Test.YtaofjgnhapnndaaXMak
import Derived.Test.YtaofjgnhapnndaaXMal
import Derived.Test.YtaofjgnhapnndaaXMam
import Derived.Test.YtaofjgnhapnndaaXMan
import Derived.Test.YtaofjgnhapnndaaXMap
import Derived.Test.YtaofjgnhapnndaaXMaq
import Derived.Test.YtaofjgnhapnndaaXMar
open Go.Proofs.YtaofjgnhapnndaaFM
namespace Go.Proofs.Ytaofjgnhapnndaa.Q
open Go.RowKit Go.Proofs.YtaofjgnhapnndaaW.PrintWords Go.Proofs.YtaofjgnhapnndaaW.PrintLast Go.Proofs.YtaofjgnhapnndaaW.PrintMore
set_option linter.unusedVariables false
set_option linter.unusedSimpArgs false
def impl_ShareMoves.l0 : Nat → List ByteArray → List (S56) → Int → Int → List ByteArray → List (S56) → Option (List ByteArray)
 | 0, _, _, _, _, _, _ => none
 | k + 1, x3, x11, x12, x13, x102000, x102001 => if x13 < x12 then (if 0 ≤ x13 then (if x13 < (x11.length : Int) then ((impl_ShareBook_can.f k x102000 x102001 x13 ([] : List ByteArray)).bind fun t108 => (if t108 = true then (if x3.length < 8796093022208 then (impl_ShareMoves.l0 k (x3 ++ [(rd_T56 x11 x13).f0]) x11 x12 (wrap64 (x13 + 1)) x102000 x102001) else (none)) else (impl_ShareMoves.l0 k x3 x11 x12 (wrap64 (x13 + 1)) x102000 x102001))) else (none)) else (none)) else (some x3)
def impl_ShareMoves.f (k : Nat) (l0_0 : List ByteArray) (l0_1 : List (S56)) : Option (List ByteArray) := (impl_ShareBookOk.f k l0_0 l0_1).bind fun t102 => (if t102 = true then (impl_ShareMoves.l0 k (([] : List ByteArray)) l0_1 (l0_1.length : Int) 0 l0_0 l0_1) else (some ([] : List ByteArray)))
set_option maxHeartbeats 8000000 in
set_option maxRecDepth 100000 in
theorem impl_ShareMoves.calls (k : Nat) (A0_0 : Option Addr) (c0_0 : Nat) (l0_0 : List ByteArray) (A0_1 : Option Addr) (c0_1 : Nat) (l0_1 : List (S56)) (r : List ByteArray) (w : World) (hr0_0 : Kd.C Kd.string w A0_0 l0_0.length l0_0) (hc0_0 : l0_0.length ≤ c0_0) (hr0_1 : Kd.C k56 w A0_1 l0_1.length l0_1) (hc0_1 : l0_1.length ≤ c0_1) (h : impl_ShareMoves.f k l0_0 l0_1 = some r) :
  Calls Try.prog 43 #[.agg #[.slice A0_0 l0_0.length c0_0, .slice A0_1 l0_1.length c0_1]] w fun e w' => ∃ v0_ : Value, e = .returned (v0_) ∧ Kd.R Kd.string 9 w' w.heap.size (fun _ => True) v0_ r ∧ Below w.heap.size w w' := by
 have hu31 := Try.underlying31
 have hu56 := Try.underlying56
 have HR0_0 := Aside0.mk hr0_0
 have HC0_0 := Aside0.mk hc0_0
 clear hr0_0 hc0_0
 have HR0_1 := Aside0.mk hr0_1
 have HC0_1 := Aside0.mk hc0_1
 clear hr0_1 hc0_1
 have HB := Aside0.mk (Below.refl w.heap.size w)
 have H : ((impl_ShareBookOk.f k l0_0 l0_1).bind fun t102 => (if t102 = true then (impl_ShareMoves.l0 k (([] : List ByteArray)) l0_1 (l0_1.length : Int) 0 l0_0 l0_1) else (some ([] : List ByteArray)))) = some r := h
 clear h
 replace H := Option.bind_eq_some_iff.mp H
 obtain ⟨t102, A20, H⟩ := H
 replace H : (if t102 = true then (impl_ShareMoves.l0 k (([] : List ByteArray)) l0_1 (l0_1.length : Int) 0 l0_0 l0_1) else (some ([] : List ByteArray))) = some r := H
 have A2 := Aside0.mk A20
 clear A20
 by_cases c3 : t102 = true
 ·subst c3
  have H1 : (impl_ShareMoves.l0 k (([] : List ByteArray)) l0_1 (l0_1.length : Int) 0 l0_0 l0_1) = some r := by rw [if_pos rfl] at H; exact H
  clear H
  have H := H1
  clear H1
  obtain ⟨y103, hy103⟩ : ∃ y_ : List ByteArray, y_ = (([] : List ByteArray)) := ⟨_, rfl⟩
  replace H : (impl_ShareMoves.l0 k y103 l0_1 (l0_1.length : Int) 0 l0_0 l0_1) = some r := by first | (rw [hy103]; with_reducible exact H) | (have H2_ := (Option.bind_some _ _).symm.trans H; rw [hy103]; with_reducible exact H2_) | (have H2_ := (Option.bind_some _ _).symm.trans H; with_reducible exact H2_) | with_reducible exact H | (rw [hy103]; exact H) | exact H
  have Ny103 := Aside0.mk hy103
  clear hy103
  have H' := Aside0.mk H
  clear H
  go_enter Try.func43, Try.ntmps43
  go_wp2_with (first | ((with_reducible refine gate_dst (N := 1) rfl ?_); refine box_event ?hg (N := 1) ?hd (cs := #[.slice A0_0 l0_0.length c0_0, .slice A0_1 l0_1.length c0_1]) (t := 31) ?hr ?_; (case hd => rfl); (case hg => rfl); (case hr => first | (go_simp; done) | (go_simp; rfl)); intro gb101 hg w4 hbox hb; have n0_ := Aside0.mk (below_step (pY39) hb); have n1_ := Aside0.mk (hbox); have n2_ := Aside0.mk ((pY36 : w.heap.size ≤ gb101)); have n3_ := Aside0.mk ((pY36 : w.heap.size ≤ gb101)); clear HB; have HB := n0_; have BK101 := n1_; have GW101 := n2_; have GE101 := n3_; clear n0_ n1_ n2_ n3_; clear hb hbox hg; have hcz5_0 : w4.cell? ⟨gb101, 0, none⟩ = some (.slice A0_0 l0_0.length c0_0) := (blk_cell BK101.out 0).trans rfl; have hcz5_1 : w4.cell? ⟨gb101, 1, none⟩ = some (.slice A0_1 l0_1.length c0_1) := (blk_cell BK101.out 1).trans rfl; have hfz5_0 := blk_frozen BK101.out 0; have hfz5_1 := blk_frozen BK101.out 1) | ((with_reducible refine gate_callee (f := 24) rfl ?_); refine goesL_ (some 7) rfl rfl Try.func24 (by kernel_rfl) rfl #[.agg #[.slice A0_0 l0_0.length c0_0, .slice A0_1 l0_1.length c0_1]] rfl (pY38) ?_; (with_reducible refine (impl_ShareBookOk.calls k _ _ l0_0 _ _ l0_1 true _ ?side1 ?side2 ?side3 ?side4 A2.out).mono ?_); (case side1 => exact pC (Kd.C_below HR0_0.out HB.out)); (case side2 => exact HC0_0.out); (case side3 => exact pC (Kd.C_below HR0_1.out HB.out)); (case side4 => exact HC0_1.out); rintro e w6 ⟨rfl, hb⟩; refine ⟨_, rfl, ?_⟩; have n0_ := Aside0.mk (blk_below (g := gb101) (o := .cells #[.slice A0_0 l0_0.length c0_0, .slice A0_1 l0_1.length c0_1] 31 (0, 0)) (pY40) hb); have n1_ := Aside0.mk (below_step (pY37) hb); clear BK101; clear HB; have BK101 := n0_; have HB := n1_; clear n0_ n1_; (try clear hb); (try clear hb2); (try clear hk); (try clear hi)) | ((with_reducible refine gate_dst (N := 9) rfl ?_); refine Kd.R_lit Kd.string _ 9 ?hg (N := 9) ?hd (xs := ([] : List ByteArray)) (inner := []) (ok := fun _ => True) (okp := fun _ => True) ?hr ?hp (fun _ hk => hk) trivial (Below.refl _ _) (Nat.le_refl _) (by simp) ?_; (case hd => rfl); (case hg => rfl); (case hr => first | (go_simp; done) | (go_simp; rfl)); (case hp => exact (Reps.none _ _)); intro v104 w7 ho8 hb hg_ hnew_; clear hg_ hnew_; (first | rw [← Ny103.out] at ho8 | (simp only [Int.reduceToNat] at ho8; rw [← Ny103.out] at ho8)); have n0_ := Aside0.mk (Kd.R_lower ho8 (below_size (pY37))); have n1_ := Aside0.mk (blk_below (g := gb101) (o := .cells #[.slice A0_0 l0_0.length c0_0, .slice A0_1 l0_1.length c0_1] 31 (0, 0)) (pY40) hb); have n2_ := Aside0.mk (below_step (pY37) hb); clear BK101; clear HB; have HO105 := n0_; have BK101 := n1_; have HB := n2_; clear n0_ n1_ n2_; clear hb ho8; have hcz9_0 : w7.cell? ⟨gb101, 0, none⟩ = some (.slice A0_0 l0_0.length c0_0) := (blk_cell BK101.out 0).trans rfl; have hcz9_1 : w7.cell? ⟨gb101, 1, none⟩ = some (.slice A0_1 l0_1.length c0_1) := (blk_cell BK101.out 1).trans rfl; have hfz9_0 := blk_frozen BK101.out 0; have hfz9_1 := blk_frozen BK101.out 1))
  go_loopg [3, 13] k (fun kq v3 v13 w' => ∃ (x3_1 : List ByteArray) (x13_1 : Int), v13 = .int .i64 x13_1 ∧ Aside0 (impl_ShareMoves.l0 kq x3_1 l0_1 (l0_1.length : Int) x13_1 l0_0 l0_1 = some r) ∧ Aside0 (kq ≤ k) ∧ Aside0 (Kd.R Kd.string 9 w' w.heap.size (fun _ => True) v3 x3_1) ∧ Aside0 (w'.heap[gb101]? = some (.cells #[(.slice A0_0 l0_0.length c0_0), (.slice A0_1 l0_1.length c0_1)] 31 (0, 0))) ∧ Aside0 (Below w.heap.size w w'))
  case atStart => exact ⟨(y103), (0), (pY59), H', ⟨Nat.le_refl _⟩, ⟨by (with_reducible repeat (first | apply Kd.R_alloc | apply Kd.R_drewN | apply Kd.R_drew)); exact HO105.out⟩, ⟨by (with_reducible repeat (first | refine blk_drewN ?_ _ | refine blk_drew ?_ | refine blk_alloc ?_ _)); exact BK101.out⟩, ⟨pY37⟩⟩
  case round =>
   clear H'
   try clear c2
   try clear p2
   try clear c3
   try clear c4
   try clear hcz5_0
   try clear hcz5_1
   try clear hcz9_0
   try clear hcz9_1
   try clear hfz5_0
   try clear hfz5_1
   try clear hfz9_0
   try clear hfz9_1
   obtain ⟨x3_1, x13_1, rfl, HA, HK1, HO_3, BK101, HB⟩ := hrel
   cases gk with
   | zero => exact absurd HA.out (by simp [impl_ShareMoves.l0])
   | succ k1 =>
    have H := HA.out
    clear HA
    simp only [impl_ShareMoves.l0] at H
    by_cases c10 : x13_1 < (l0_1.length : Int)
    ·rw [if_pos c10] at H
     have c10b0 : decide (x13_1 < (l0_1.length : Int)) = true := decide_eq_true c10
     clear c10
     by_cases c11 : 0 ≤ x13_1
     ·rw [if_pos c11] at H
      have c11b0 : decide (0 ≤ x13_1) = true := decide_eq_true c11
      clear c11
      by_cases c12 : x13_1 < (l0_1.length : Int)
      ·rw [if_pos c12] at H
       have c12b0 : decide (x13_1 < (l0_1.length : Int)) = true := decide_eq_true c12
       clear c12
       replace H := Option.bind_eq_some_iff.mp H
       obtain ⟨t108, A130, H⟩ := H
       replace H : (if t108 = true then (if x3_1.length < 8796093022208 then (impl_ShareMoves.l0 k1 (x3_1 ++ [(rd_T56 l0_1 x13_1).f0]) l0_1 (l0_1.length : Int) (wrap64 (x13_1 + 1)) l0_0 l0_1) else (none)) else (impl_ShareMoves.l0 k1 x3_1 l0_1 (l0_1.length : Int) (wrap64 (x13_1 + 1)) l0_0 l0_1)) = some r := H
       have A13 := Aside0.mk A130
       clear A130
       by_cases c14 : t108 = true
       ·subst c14
        have H1 : (if x3_1.length < 8796093022208 then (impl_ShareMoves.l0 k1 (x3_1 ++ [(rd_T56 l0_1 x13_1).f0]) l0_1 (l0_1.length : Int) (wrap64 (x13_1 + 1)) l0_0 l0_1) else (none)) = some r := by rw [if_pos rfl] at H; exact H
        clear H
        have H := H1
        clear H1
        by_cases c15 : x3_1.length < 8796093022208
        ·rw [if_pos c15] at H
         have LMc15 := Aside0.mk c15
         clear c15
         obtain ⟨y109, hy109⟩ : ∃ y_ : List ByteArray, y_ = (x3_1 ++ [(rd_T56 l0_1 x13_1).f0]) := ⟨_, rfl⟩
         replace H : (impl_ShareMoves.l0 k1 y109 l0_1 (l0_1.length : Int) (wrap64 (x13_1 + 1)) l0_0 l0_1) = some r := by first | (rw [hy109]; with_reducible exact H) | (have H2_ := (Option.bind_some _ _).symm.trans H; rw [hy109]; with_reducible exact H2_) | (have H2_ := (Option.bind_some _ _).symm.trans H; with_reducible exact H2_) | with_reducible exact H | (rw [hy109]; exact H) | exact H
         have Ny109 := Aside0.mk hy109
         clear hy109
         have H' := Aside0.mk H
         clear H
         have p106 : 0 ≤ (x13_1 : Int) := of_decide_eq_true (pY58)
         have q106 : x13_1 < (l0_1.length : Int) := of_decide_eq_true (pY58)
         obtain ⟨ad106, A106_1, c106_1, A106_2, c106_2, e106, hx106_0, hx106_1, hx106_2, hl106_1, hi106_1, hl106_2, hi106_2⟩ := at_T56 HR0_1.out x13_1 p106 q106
         cases e106
         replace hx106_0 := (HB.out.cell (World.block_lt_of_cell? w _ hx106_0)).trans hx106_0
         replace hx106_1 := (HB.out.cell (World.block_lt_of_cell? w _ hx106_1)).trans hx106_1
         replace hx106_2 := (HB.out.cell (World.block_lt_of_cell? w _ hx106_2)).trans hx106_2
         have HR106_1 := Aside0.mk hi106_1
         have HC106_1 := Aside0.mk hl106_1
         clear hi106_1 hl106_1
         have HR106_2 := Aside0.mk hi106_2
         have HC106_2 := Aside0.mk hl106_2
         clear hi106_2 hl106_2
         replace p106 := eq_true p106
         replace q106 := eq_true q106
         go_wp2_with (first | ((with_reducible refine gate_dst (N := 5) rfl ?_); refine box_event ?hg (N := 5) ?hd (cs := #[.string (⟨#[]⟩ : ByteArray), .slice none 0 0, .slice none 0 0]) (t := 56) ?hr ?_; (case hd => rfl); (case hg => rfl); (case hr => first | (go_simp; done) | (go_simp; rfl)); intro gb107 hg w16 hbox hb; have n0_ := Aside0.mk (Kd.R_below (pY52) hb); have n1_ := Aside0.mk (blk_below (g := gb101) (o := .cells #[.slice A0_0 l0_0.length c0_0, .slice (some ad106) l0_1.length c0_1] 31 (0, 0)) (pY40) hb); have n2_ := Aside0.mk (below_step (pY37) hb); have n3_ := Aside0.mk (hbox); have n4_ := Aside0.mk ((pY27 : w.heap.size ≤ gb107)); have n5_ := Aside0.mk ((pY27 : w.heap.size ≤ gb107)); have n6_ := Aside0.mk ((pY17 : gb101 ≠ gb107)); have n7_ := Aside0.mk ((pY18 : gb107 ≠ gb101)); clear HO_3; clear BK101; clear HB; have HO_3 := n0_; have BK101 := n1_; have HB := n2_; have BK107 := n3_; have GW107 := n4_; have GE107 := n5_; have NB101_107 := n6_; have NB107_101 := n7_; clear n0_ n1_ n2_ n3_ n4_ n5_ n6_ n7_; clear hb hbox hg; have hnb17 := NB107_101.out; have hnc17 := NB101_107.out; have hcz18_0 : w16.cell? ⟨gb107, 0, none⟩ = some (.string (⟨#[]⟩ : ByteArray)) := (blk_cell BK107.out 0).trans rfl; have hcz18_1 : w16.cell? ⟨gb107, 1, none⟩ = some (.slice none 0 0) := (blk_cell BK107.out 1).trans rfl; have hcz18_2 : w16.cell? ⟨gb107, 2, none⟩ = some (.slice none 0 0) := (blk_cell BK107.out 2).trans rfl; have hfz18_0 := blk_frozen BK107.out 0; have hfz18_1 := blk_frozen BK107.out 1; have hfz18_2 := blk_frozen BK107.out 2; have hcz19_0 : w16.cell? ⟨gb101, 0, none⟩ = some (.slice A0_0 l0_0.length c0_0) := (blk_cell BK101.out 0).trans rfl; have hcz19_1 : w16.cell? ⟨gb101, 1, none⟩ = some (.slice (some ad106) l0_1.length c0_1) := (blk_cell BK101.out 1).trans rfl; have hfz19_0 := blk_frozen BK101.out 0; have hfz19_1 := blk_frozen BK101.out 1) | ((with_reducible refine gate_callee (f := 85) rfl ?_); refine goesL_ (some 20) rfl rfl Try.func85 (by kernel_rfl) rfl #[.agg #[.slice A0_0 l0_0.length c0_0, .slice (some ad106) l0_1.length c0_1], .int .i64 x13_1, .slice none 0 0] rfl (pY38) ?_; (refine (impl_ShareBook_can.calls k1 _ _ l0_0 _ _ l0_1 x13_1 _ _ ([] : List ByteArray) true _ ?side1 ?side2 ?side3 ?side4 ?side5 ?side6 A13.out).mono ?_); (case side1 => exact Kd.C_below HR0_0.out (pY32)); (case side2 => exact HC0_0.out); (case side3 => exact Kd.C_below HR0_1.out (pY32)); (case side4 => exact HC0_1.out); (case side5 => exact Kd.C_nil _ _); (case side6 => exact Nat.le_refl _); rintro e w20 ⟨rfl, hb⟩; refine ⟨_, rfl, ?_⟩; have n0_ := Aside0.mk (Kd.R_below (by (with_reducible repeat (first | apply Kd.R_alloc | apply Kd.R_drewN | apply Kd.R_drew)); exact (Kd.R_mono (Kd.R_far (p := ⟨gb107, 2, none⟩) (Kd.R_far (p := ⟨gb107, 1, none⟩) (Kd.R_far (p := ⟨gb107, 0, none⟩) (Kd.R_types HO_3.out BK107.out (by decide)) (fun _ hk => hk.2) (.string ((rd_T56 l0_1 x13_1).f0))) (fun _ hk => hk.2) (.slice A106_1 ((rd_T56 l0_1 x13_1).f1).length c106_1)) (fun _ hk => hk.2) (.slice A106_2 ((rd_T56 l0_1 x13_1).f2).length c106_2)) (fun _ h_ => h_.1))) hb); have n1_ := Aside0.mk (blk_below (g := gb101) (o := .cells #[.slice A0_0 l0_0.length c0_0, .slice (some ad106) l0_1.length c0_1] 31 (0, 0)) (pY3) hb); have n2_ := Aside0.mk (blk_below (g := gb107) (o := .cells #[.string ((rd_T56 l0_1 x13_1).f0), .slice A106_1 ((rd_T56 l0_1 x13_1).f1).length c106_1, .slice A106_2 ((rd_T56 l0_1 x13_1).f2).length c106_2] 56 (0, 0)) (pY1) hb); have n3_ := Aside0.mk (below_step (pY32) hb); clear HO_3; clear BK101; clear BK107; clear HB; have HO_3 := n0_; have BK101 := n1_; have BK107 := n2_; have HB := n3_; clear n0_ n1_ n2_ n3_; (try clear hb); (try clear hb2); (try clear hk); (try clear hi); have hcz21_0 : w20.cell? ⟨gb107, 0, none⟩ = some (.string ((rd_T56 l0_1 x13_1).f0)) := (blk_cell BK107.out 0).trans rfl; have hcz21_1 : w20.cell? ⟨gb107, 1, none⟩ = some (.slice A106_1 ((rd_T56 l0_1 x13_1).f1).length c106_1) := (blk_cell BK107.out 1).trans rfl; have hcz21_2 : w20.cell? ⟨gb107, 2, none⟩ = some (.slice A106_2 ((rd_T56 l0_1 x13_1).f2).length c106_2) := (blk_cell BK107.out 2).trans rfl; have hfz21_0 := blk_frozen BK107.out 0; have hfz21_1 := blk_frozen BK107.out 1; have hfz21_2 := blk_frozen BK107.out 2) | ((with_reducible refine gate_builtin (b := .append) (xs := #[.tmp 21, .tmp 24]) rfl ?_); at_builtin; refine Kd.R_append Kd.string (w0 := w) w.heap.size rfl (.tmp 21) (.tmp 24) 23 9 (.string ⟨#[]⟩) 16 rfl Try.underlying23 info9 rfl (by decide) (by omega) u3 x3_1 ((rd_T56 l0_1 x13_1).f0) [.string ((rd_T56 l0_1 x13_1).f0)] (fun _ => True) (fun _ => False) rfl rfl ?aP (fun _ hk => hk.elim) ?aF ?aO ?aB ?aS ?aL ?_; (case aP => exact rfl); (case aB => exact (pY32)); (case aF => exact (fun _ _ => trivial)); (case aO => exact (pY52)); (case aS => exact (below_size (pY32))); (case aL => have := LMc15.out; omega); intro v110 w22 ho hb hg hat; rw [← Ny109.out] at ho; have n0_ := Aside0.mk (blk_grown (g := gb101) (o := .cells #[.slice A0_0 l0_0.length c0_0, .slice (some ad106) l0_1.length c0_1] 31 (0, 0)) (pY40) hg (Kd.R_ne HO_3.out BK101.out (by decide))); have n1_ := Aside0.mk (blk_grown (g := gb107) (o := .cells #[.string ((rd_T56 l0_1 x13_1).f0), .slice A106_1 ((rd_T56 l0_1 x13_1).f1).length c106_1, .slice A106_2 ((rd_T56 l0_1 x13_1).f2).length c106_2] 56 (0, 0)) (by (with_reducible repeat (first | refine blk_drewN ?_ _ | refine blk_drew ?_ | refine blk_alloc ?_ _)); exact BK107.out) hg (Kd.R_ne HO_3.out BK107.out (by decide))); have n2_ := Aside0.mk (hb); have n3_ := Aside0.mk (ho); clear BK101; clear BK107; clear HB; clear HO_3; have BK101 := n0_; have BK107 := n1_; have HB := n2_; have HO111 := n3_; clear n0_ n1_ n2_ n3_; clear ho hb hg hat))
         go_roundg k1
         case measure => have := HK1.out; omega
         case rel => exact ⟨(y109), (wrap64 (x13_1 + 1)), (pY59), H', ⟨by have := HK1.out; omega⟩, ⟨by (with_reducible repeat (first | apply Kd.R_alloc | apply Kd.R_drewN | apply Kd.R_drew)); exact HO111.out⟩, ⟨by (with_reducible repeat (first | refine blk_drewN ?_ _ | refine blk_drew ?_ | refine blk_alloc ?_ _)); exact BK101.out⟩, ⟨pY32⟩⟩
        ·rw [if_neg c15] at H
         exact absurd H (by simp)
       ·replace c14 := Bool.eq_false_iff.mpr c14
        subst c14
        have H1 : (impl_ShareMoves.l0 k1 x3_1 l0_1 (l0_1.length : Int) (wrap64 (x13_1 + 1)) l0_0 l0_1) = some r := by rw [if_neg (show ¬ (false = true) by decide)] at H; exact H
        clear H
        have H := H1
        clear H1
        have H' := Aside0.mk H
        clear H
        have p106 : 0 ≤ (x13_1 : Int) := of_decide_eq_true (pY58)
        have q106 : x13_1 < (l0_1.length : Int) := of_decide_eq_true (pY58)
        obtain ⟨ad106, A106_1, c106_1, A106_2, c106_2, e106, hx106_0, hx106_1, hx106_2, hl106_1, hi106_1, hl106_2, hi106_2⟩ := at_T56 HR0_1.out x13_1 p106 q106
        cases e106
        replace hx106_0 := (HB.out.cell (World.block_lt_of_cell? w _ hx106_0)).trans hx106_0
        replace hx106_1 := (HB.out.cell (World.block_lt_of_cell? w _ hx106_1)).trans hx106_1
        replace hx106_2 := (HB.out.cell (World.block_lt_of_cell? w _ hx106_2)).trans hx106_2
        have HR106_1 := Aside0.mk hi106_1
        have HC106_1 := Aside0.mk hl106_1
        clear hi106_1 hl106_1
        have HR106_2 := Aside0.mk hi106_2
        have HC106_2 := Aside0.mk hl106_2
        clear hi106_2 hl106_2
        replace p106 := eq_true p106
        replace q106 := eq_true q106
        go_wp2_with (first | ((with_reducible refine gate_dst (N := 5) rfl ?_); refine box_event ?hg (N := 5) ?hd (cs := #[.string (⟨#[]⟩ : ByteArray), .slice none 0 0, .slice none 0 0]) (t := 56) ?hr ?_; (case hd => rfl); (case hg => rfl); (case hr => first | (go_simp; done) | (go_simp; rfl)); intro gb107 hg w23 hbox hb; have n0_ := Aside0.mk (Kd.R_below (pY52) hb); have n1_ := Aside0.mk (blk_below (g := gb101) (o := .cells #[.slice A0_0 l0_0.length c0_0, .slice (some ad106) l0_1.length c0_1] 31 (0, 0)) (pY40) hb); have n2_ := Aside0.mk (below_step (pY37) hb); have n3_ := Aside0.mk (hbox); have n4_ := Aside0.mk ((pY27 : w.heap.size ≤ gb107)); have n5_ := Aside0.mk ((pY27 : w.heap.size ≤ gb107)); have n6_ := Aside0.mk ((pY17 : gb101 ≠ gb107)); have n7_ := Aside0.mk ((pY18 : gb107 ≠ gb101)); clear HO_3; clear BK101; clear HB; have HO_3 := n0_; have BK101 := n1_; have HB := n2_; have BK107 := n3_; have GW107 := n4_; have GE107 := n5_; have NB101_107 := n6_; have NB107_101 := n7_; clear n0_ n1_ n2_ n3_ n4_ n5_ n6_ n7_; clear hb hbox hg; have hnb24 := NB107_101.out; have hnc24 := NB101_107.out; have hcz25_0 : w23.cell? ⟨gb107, 0, none⟩ = some (.string (⟨#[]⟩ : ByteArray)) := (blk_cell BK107.out 0).trans rfl; have hcz25_1 : w23.cell? ⟨gb107, 1, none⟩ = some (.slice none 0 0) := (blk_cell BK107.out 1).trans rfl; have hcz25_2 : w23.cell? ⟨gb107, 2, none⟩ = some (.slice none 0 0) := (blk_cell BK107.out 2).trans rfl; have hfz25_0 := blk_frozen BK107.out 0; have hfz25_1 := blk_frozen BK107.out 1; have hfz25_2 := blk_frozen BK107.out 2; have hcz26_0 : w23.cell? ⟨gb101, 0, none⟩ = some (.slice A0_0 l0_0.length c0_0) := (blk_cell BK101.out 0).trans rfl; have hcz26_1 : w23.cell? ⟨gb101, 1, none⟩ = some (.slice (some ad106) l0_1.length c0_1) := (blk_cell BK101.out 1).trans rfl; have hfz26_0 := blk_frozen BK101.out 0; have hfz26_1 := blk_frozen BK101.out 1) | ((with_reducible refine gate_callee (f := 85) rfl ?_); refine goesL_ (some 20) rfl rfl Try.func85 (by kernel_rfl) rfl #[.agg #[.slice A0_0 l0_0.length c0_0, .slice (some ad106) l0_1.length c0_1], .int .i64 x13_1, .slice none 0 0] rfl (pY38) ?_; (refine (impl_ShareBook_can.calls k1 _ _ l0_0 _ _ l0_1 x13_1 _ _ ([] : List ByteArray) false _ ?side1 ?side2 ?side3 ?side4 ?side5 ?side6 A13.out).mono ?_); (case side1 => exact Kd.C_below HR0_0.out (pY32)); (case side2 => exact HC0_0.out); (case side3 => exact Kd.C_below HR0_1.out (pY32)); (case side4 => exact HC0_1.out); (case side5 => exact Kd.C_nil _ _); (case side6 => exact Nat.le_refl _); rintro e w27 ⟨rfl, hb⟩; refine ⟨_, rfl, ?_⟩; have n0_ := Aside0.mk (Kd.R_below (by (with_reducible repeat (first | apply Kd.R_alloc | apply Kd.R_drewN | apply Kd.R_drew)); exact (Kd.R_mono (Kd.R_far (p := ⟨gb107, 2, none⟩) (Kd.R_far (p := ⟨gb107, 1, none⟩) (Kd.R_far (p := ⟨gb107, 0, none⟩) (Kd.R_types HO_3.out BK107.out (by decide)) (fun _ hk => hk.2) (.string ((rd_T56 l0_1 x13_1).f0))) (fun _ hk => hk.2) (.slice A106_1 ((rd_T56 l0_1 x13_1).f1).length c106_1)) (fun _ hk => hk.2) (.slice A106_2 ((rd_T56 l0_1 x13_1).f2).length c106_2)) (fun _ h_ => h_.1))) hb); have n1_ := Aside0.mk (blk_below (g := gb101) (o := .cells #[.slice A0_0 l0_0.length c0_0, .slice (some ad106) l0_1.length c0_1] 31 (0, 0)) (pY3) hb); have n2_ := Aside0.mk (blk_below (g := gb107) (o := .cells #[.string ((rd_T56 l0_1 x13_1).f0), .slice A106_1 ((rd_T56 l0_1 x13_1).f1).length c106_1, .slice A106_2 ((rd_T56 l0_1 x13_1).f2).length c106_2] 56 (0, 0)) (pY1) hb); have n3_ := Aside0.mk (below_step (pY32) hb); clear HO_3; clear BK101; clear BK107; clear HB; have HO_3 := n0_; have BK101 := n1_; have BK107 := n2_; have HB := n3_; clear n0_ n1_ n2_ n3_; (try clear hb); (try clear hb2); (try clear hk); (try clear hi)))
        go_roundg k1
        case measure => have := HK1.out; omega
        case rel => exact ⟨(x3_1), (wrap64 (x13_1 + 1)), (pY59), H', ⟨by have := HK1.out; omega⟩, ⟨by (with_reducible repeat (first | apply Kd.R_alloc | apply Kd.R_drewN | apply Kd.R_drew)); exact HO_3.out⟩, ⟨by (with_reducible repeat (first | refine blk_drewN ?_ _ | refine blk_drew ?_ | refine blk_alloc ?_ _)); exact BK101.out⟩, ⟨pY32⟩⟩
      ·rw [if_neg c12] at H
       exact absurd H (by simp)
     ·rw [if_neg c11] at H
      exact absurd H (by simp)
    ·rw [if_neg c10] at H
     have c10b0 : decide (x13_1 < (l0_1.length : Int)) = false := decide_eq_false c10
     clear c10
     obtain rfl := Option.some.inj H
     go_wp2
     go_ret
     exact ⟨_, by first | rfl | (simp [errW_none, errW_some] <;> rfl) | (simp [*, errW_none, errW_some] <;> rfl), by (with_reducible repeat (first | apply Kd.R_alloc | apply Kd.R_drewN | apply Kd.R_drew)); exact HO_3.out, pY37⟩
 ·replace c3 := Bool.eq_false_iff.mpr c3
  subst c3
  have H1 : (some ([] : List ByteArray)) = some r := by rw [if_neg (show ¬ (false = true) by decide)] at H; exact H
  clear H
  have H := H1
  clear H1
  obtain rfl := Option.some.inj H
  go_enter Try.func43, Try.ntmps43
  go_wp2_with (first | ((with_reducible refine gate_dst (N := 1) rfl ?_); refine box_event ?hg (N := 1) ?hd (cs := #[.slice A0_0 l0_0.length c0_0, .slice A0_1 l0_1.length c0_1]) (t := 31) ?hr ?_; (case hd => rfl); (case hg => rfl); (case hr => first | (go_simp; done) | (go_simp; rfl)); intro gb101 hg w28 hbox hb; have n0_ := Aside0.mk (below_step (pY39) hb); have n1_ := Aside0.mk (hbox); have n2_ := Aside0.mk ((pY36 : w.heap.size ≤ gb101)); have n3_ := Aside0.mk ((pY36 : w.heap.size ≤ gb101)); clear HB; have HB := n0_; have BK101 := n1_; have GW101 := n2_; have GE101 := n3_; clear n0_ n1_ n2_ n3_; clear hb hbox hg; have hcz29_0 : w28.cell? ⟨gb101, 0, none⟩ = some (.slice A0_0 l0_0.length c0_0) := (blk_cell BK101.out 0).trans rfl; have hcz29_1 : w28.cell? ⟨gb101, 1, none⟩ = some (.slice A0_1 l0_1.length c0_1) := (blk_cell BK101.out 1).trans rfl; have hfz29_0 := blk_frozen BK101.out 0; have hfz29_1 := blk_frozen BK101.out 1) | ((with_reducible refine gate_callee (f := 24) rfl ?_); refine goesL_ (some 7) rfl rfl Try.func24 (by kernel_rfl) rfl #[.agg #[.slice A0_0 l0_0.length c0_0, .slice A0_1 l0_1.length c0_1]] rfl (pY38) ?_; (with_reducible refine (impl_ShareBookOk.calls k _ _ l0_0 _ _ l0_1 false _ ?side1 ?side2 ?side3 ?side4 A2.out).mono ?_); (case side1 => exact pC (Kd.C_below HR0_0.out HB.out)); (case side2 => exact HC0_0.out); (case side3 => exact pC (Kd.C_below HR0_1.out HB.out)); (case side4 => exact HC0_1.out); rintro e w30 ⟨rfl, hb⟩; refine ⟨_, rfl, ?_⟩; have n0_ := Aside0.mk (blk_below (g := gb101) (o := .cells #[.slice A0_0 l0_0.length c0_0, .slice A0_1 l0_1.length c0_1] 31 (0, 0)) (pY40) hb); have n1_ := Aside0.mk (below_step (pY37) hb); clear BK101; clear HB; have BK101 := n0_; have HB := n1_; clear n0_ n1_; (try clear hb); (try clear hb2); (try clear hk); (try clear hi)))
  go_ret
  exact ⟨_, by first | rfl | (simp [errW_none, errW_some] <;> rfl) | (simp [*, errW_none, errW_some] <;> rfl), by first | exact Kd.R_nil _ _ _ _ _ | exact Kd.N_nil _ _ _ _ _ | exact Kd.V_nil _ _ _ _ _ | exact Kd.Q_nil _ _ _ _ _ | exact Kd.S_nil _ _ _ _ _, pY37⟩
end Go.Proofs.Ytaofjgnhapnndaa.Q
namespace Go.Proofs.Ytaofjgnhapnndaa.Q
open Go.RowKit Go.Proofs.YtaofjgnhapnndaaW.PrintWords Go.Proofs.YtaofjgnhapnndaaW.PrintLast Go.Proofs.YtaofjgnhapnndaaW.PrintMore
set_option linter.unusedVariables false
set_option linter.unusedSimpArgs false
def movesL (bs : List IB) (i : Nat) : List ByteArray := (filterR (fun i => canB bs i []) bs.length i).map fun i => (gB bs i).f0
def movesB (ts : List ByteArray) (bs : List IB) : List ByteArray := if bookB ts bs = true then movesL bs 0 else []
theorem movesL_step {bs : List IB} {i : Nat} (hi : i < bs.length) : movesL bs i = if canB bs i [] = true then (gB bs i).f0 :: movesL bs (i + 1) else movesL bs (i + 1) := by
  unfold movesL; rw [filterR_step _ hi]; cases canB bs i [] <;> rfl
theorem movesL_end (bs : List IB) : movesL bs bs.length = [] := by unfold movesL; rw [filterR_end]; rfl
theorem spec_ShareMoves_ev (ts : List ByteArray) (bs : List IB) (ht : ts.length ≤ 9223372036854775807) (hl : bs.length ≤ 9223372036854775807) (hb : Bok bs) : Ev (fun k => spec_ShareMoves.f k ts bs) (movesB ts bs) := by
  unfold spec_ShareMoves.f
  have go : ∀ (d i : Nat) (x : List ByteArray), bs.length - i = d → i ≤ bs.length → x.length ≤ i → Ev (fun k => spec_ShareMoves.l0 k x (i : Int) ts bs) (x ++ if bookB ts bs = true then movesL bs i else []) := by
    intro d
    induction d with
    | zero =>
      intro i x hd hi hx
      have e : i = bs.length := by omega
      refine Ev.step (fun k => spec_ShareMoves.l0.eq_2 x _ ts bs k) (Ev.neg (by omega) ?_)
      refine Ev.step (fun k => spec_ShareMoves.j1.eq_2 x _ _ ts bs k) (Ev.neg (by simp) (Ev.ret ?_))
      subst e
      rw [movesL_end, ite_self, List.append_nil]
    | succ d ih =>
      intro i x hd hi hx
      have hlt : i < bs.length := by omega
      refine Ev.step (fun k => spec_ShareMoves.l0.eq_2 x _ ts bs k) (Ev.pos (by omega) (Ev.bind (spec_ShareBookOk_ev ts bs ht hl hb) ?_))
      refine Ev.step (fun k => spec_ShareMoves.j1.eq_2 x _ _ ts bs k) ?_
      refine Ev.test _ (fun h => ?_) (fun h => Ev.ret (by simp [h]))
      have h5 := book_five h
      refine Ev.bind (spec_l2Can_ev ts bs i [] hl hb hlt (by simp)) ?_
      rw [rdB_cast, wrap_up hlt hl, if_pos h, movesL_step hlt]
      refine Ev.test _ (fun h2 => Ev.pos (by omega) (Ev.pos (by omega) (Ev.pos (by omega) ?_))) (fun h2 => ?_)
      · refine Ev.sub (ih (i + 1) (x ++ [(gB bs i).f0]) (by omega) (by omega) (by simp; omega)) ?_
        rw [if_pos h, if_pos h2, List.append_assoc]; rfl
      · refine Ev.sub (ih (i + 1) x (by omega) (by omega) (by omega)) ?_
        rw [if_pos h, if_neg (by simp [h2])]
  exact go bs.length 0 [] (by omega) (by omega) (by simp)
theorem impl_ShareMoves_ev (ts : List ByteArray) (bs : List IB) (ht : ts.length ≤ 9223372036854775807) (hl : bs.length ≤ 9223372036854775807) (hb : Bok bs) : Ev (fun k => impl_ShareMoves.f k ts bs) (movesB ts bs) := by
  unfold impl_ShareMoves.f movesB
  refine Ev.bind (impl_ShareBookOk_ev ts bs ht hl hb) (Ev.test _ (fun h => ?_) (fun h => Ev.ret (by simp [h])))
  have h5 := book_five h
  rw [if_pos h]
  have go : ∀ (d i : Nat) (x : List ByteArray), bs.length - i = d → i ≤ bs.length → x.length ≤ i → Ev (fun k => impl_ShareMoves.l0 k x bs (bs.length : Int) (i : Int) ts bs) (x ++ movesL bs i) := by
    intro d
    induction d with
    | zero =>
      intro i x hd hi hx
      have e : i = bs.length := by omega
      refine Ev.step (fun k => impl_ShareMoves.l0.eq_2 x bs _ _ ts bs k) (Ev.neg (by omega) (Ev.ret ?_))
      subst e
      rw [movesL_end, List.append_nil]
    | succ d ih =>
      intro i x hd hi hx
      have hlt : i < bs.length := by omega
      refine Ev.step (fun k => impl_ShareMoves.l0.eq_2 x bs _ _ ts bs k) (Ev.pos (by omega) (Ev.pos (by omega) (Ev.pos (by omega) (Ev.bind (impl_can_ev ts bs i [] hl hlt (by simp)) ?_))))
      rw [rdB_cast, wrap_up hlt hl, movesL_step hlt]
      refine Ev.test _ (fun h2 => Ev.pos (by omega) ?_) (fun h2 => ?_)
      · refine Ev.sub (ih (i + 1) (x ++ [(gB bs i).f0]) (by omega) (by omega) (by simp; omega)) ?_
        rw [if_pos h2, List.append_assoc]; rfl
      · refine Ev.sub (ih (i + 1) x (by omega) (by omega) (by omega)) ?_
        rw [if_neg (by simp [h2])]
  exact go bs.length 0 [] (by omega) (by omega) (by simp)
end Go.Proofs.Ytaofjgnhapnndaa.Q
namespace Go.Proofs.Ytaofjgnhapnndaa.Q
open Go.RowKit Go.Proofs.YtaofjgnhapnndaaW.PrintWords Go.Proofs.YtaofjgnhapnndaaW.PrintLast Go.Proofs.YtaofjgnhapnndaaW.PrintMore
set_option linter.unusedVariables false
set_option linter.unusedSimpArgs false
theorem movesB_len (ts : List ByteArray) (bs : List IB) : (movesB ts bs).length ≤ bs.length := by
  unfold movesB
  split
  · unfold movesL; rw [List.length_map]; exact filterR_len _ _ _
  · simp
end Go.Proofs.Ytaofjgnhapnndaa.Q
namespace Go.Proofs.Ytaofjgnhapnndaa.Q
open Go.RowKit Go.Proofs.YtaofjgnhapnndaaW.PrintWords Go.Proofs.YtaofjgnhapnndaaW.PrintLast Go.Proofs.YtaofjgnhapnndaaW.PrintMore
set_option linter.unusedVariables false
set_option linter.unusedSimpArgs false
def laws_FnExactShareMoves.j0 : Nat → List ByteArray → List ByteArray → Bool → List ByteArray → List (S94) → Option (Bool)
 | 0, _, _, _, _, _ => none
 | k + 1, x4, x6, x42, x102000, x102001 => if x42 = true then (some false) else ((laws_markStringS.f k x6 1).bind fun bt132 => ((laws_heldStringS.f k bt132.2 1).bind fun t134 => (if t134 < 0 then (some false) else (if t134 = bt132.1 then ((laws_toShareBook.f k x102000 x102001).bind fun bt135 => ((impl_ShareMoves.f k bt135.1 bt135.2).bind fun t141 => ((laws_eqStringS.f k t141 x4).bind fun t144 => (if t144 = true then ((laws_heldStringS.f k bt132.2 1).bind fun t145 => (if t145 < 0 then (some false) else (if t145 = bt132.1 then (some true) else (some false)))) else (some false))))) else (some false)))))
def laws_FnExactShareMoves.f (k : Nat) (l0_0 : List ByteArray) (l0_1 : List (S94)) : Option (Bool) := (laws_szShareBook.f k l0_0 l0_1 1048576).bind fun t102 => (if t102 < 0 then (some true) else ((laws_toShareBook.f k l0_0 l0_1).bind fun bt103 => ((spec_ShareMoves.f k bt103.1 bt103.2).bind fun t109 => ((laws_toShareBook.f k l0_0 l0_1).bind fun bt112 => ((impl_ShareMoves.f k bt112.1 bt112.2).bind fun t119 => ((laws_eqStringS.f k t119 t109).bind fun t122 => (if t122 = true then ((laws_toShareBook.f k l0_0 l0_1).bind fun bt123 => ((laws_eqShareBook.f k bt112.1 bt112.2 bt123.1 bt123.2).bind fun t129 => (if t129 = true then ((laws_markShareBook.f k bt112.1 bt112.2 1).bind fun t130 => (if t130 < 0 then (laws_FnExactShareMoves.j0 k t109 t119 true l0_0 l0_1) else ((laws_eqStringS.f k t119 t109).bind fun t131 => (laws_FnExactShareMoves.j0 k t109 t119 (!t131) l0_0 l0_1)))) else (some false)))) else (some false))))))))
set_option maxHeartbeats 8000000 in
set_option maxRecDepth 100000 in
theorem laws_FnExactShareMoves.calls (k : Nat) (A0_0 : Option Addr) (c0_0 : Nat) (l0_0 : List ByteArray) (A0_1 : Option Addr) (c0_1 : Nat) (l0_1 : List (S94)) (r : Bool) (w : World) (hr0_0 : Kd.C Kd.string w A0_0 l0_0.length l0_0) (hc0_0 : l0_0.length ≤ c0_0) (hr0_1 : Kd.C k94 w A0_1 l0_1.length l0_1) (hc0_1 : l0_1.length ≤ c0_1) (h : laws_FnExactShareMoves.f k l0_0 l0_1 = some r) :
  Calls Try.prog 10 #[.agg #[.slice A0_0 l0_0.length c0_0, .slice A0_1 l0_1.length c0_1]] w fun e w' => e = .returned (.bool r) ∧ Below w.heap.size w w' := by
 have hu26 := Try.underlying26
 have hu31 := Try.underlying31
 have HR0_0 := Aside0.mk hr0_0
 have HC0_0 := Aside0.mk hc0_0
 clear hr0_0 hc0_0
 have HR0_1 := Aside0.mk hr0_1
 have HC0_1 := Aside0.mk hc0_1
 clear hr0_1 hc0_1
 have HB := Aside0.mk (Below.refl w.heap.size w)
 have H : ((laws_szShareBook.f k l0_0 l0_1 1048576).bind fun t102 => (if t102 < 0 then (some true) else ((laws_toShareBook.f k l0_0 l0_1).bind fun bt103 => ((spec_ShareMoves.f k bt103.1 bt103.2).bind fun t109 => ((laws_toShareBook.f k l0_0 l0_1).bind fun bt112 => ((impl_ShareMoves.f k bt112.1 bt112.2).bind fun t119 => ((laws_eqStringS.f k t119 t109).bind fun t122 => (if t122 = true then ((laws_toShareBook.f k l0_0 l0_1).bind fun bt123 => ((laws_eqShareBook.f k bt112.1 bt112.2 bt123.1 bt123.2).bind fun t129 => (if t129 = true then ((laws_markShareBook.f k bt112.1 bt112.2 1).bind fun t130 => (if t130 < 0 then (laws_FnExactShareMoves.j0 k t109 t119 true l0_0 l0_1) else ((laws_eqStringS.f k t119 t109).bind fun t131 => (laws_FnExactShareMoves.j0 k t109 t119 (!t131) l0_0 l0_1)))) else (some false)))) else (some false))))))))) = some r := h
 clear h
 replace H := Option.bind_eq_some_iff.mp H
 obtain ⟨t102, A20, H⟩ := H
 replace H : (if t102 < 0 then (some true) else ((laws_toShareBook.f k l0_0 l0_1).bind fun bt103 => ((spec_ShareMoves.f k bt103.1 bt103.2).bind fun t109 => ((laws_toShareBook.f k l0_0 l0_1).bind fun bt112 => ((impl_ShareMoves.f k bt112.1 bt112.2).bind fun t119 => ((laws_eqStringS.f k t119 t109).bind fun t122 => (if t122 = true then ((laws_toShareBook.f k l0_0 l0_1).bind fun bt123 => ((laws_eqShareBook.f k bt112.1 bt112.2 bt123.1 bt123.2).bind fun t129 => (if t129 = true then ((laws_markShareBook.f k bt112.1 bt112.2 1).bind fun t130 => (if t130 < 0 then (laws_FnExactShareMoves.j0 k t109 t119 true l0_0 l0_1) else ((laws_eqStringS.f k t119 t109).bind fun t131 => (laws_FnExactShareMoves.j0 k t109 t119 (!t131) l0_0 l0_1)))) else (some false)))) else (some false)))))))) = some r := H
 have A2 := Aside0.mk A20
 clear A20
 by_cases c3 : t102 < 0
 ·rw [if_pos c3] at H
  have c3b0 : decide (t102 < 0) = true := decide_eq_true c3
  clear c3
  obtain rfl := Option.some.inj H
  go_enter Try.func10, Try.ntmps10
  go_wp2_with (first | ((with_reducible refine gate_dst (N := 1) rfl ?_); refine box_event ?hg (N := 1) ?hd (cs := #[.slice A0_0 l0_0.length c0_0, .slice A0_1 l0_1.length c0_1]) (t := 26) ?hr ?_; (case hd => rfl); (case hg => rfl); (case hr => first | (go_simp; done) | (go_simp; rfl)); intro gb101 hg w4 hbox hb; have n0_ := Aside0.mk (below_step (pY39) hb); have n1_ := Aside0.mk (hbox); have n2_ := Aside0.mk ((pY36 : w.heap.size ≤ gb101)); have n3_ := Aside0.mk ((pY36 : w.heap.size ≤ gb101)); clear HB; have HB := n0_; have BK101 := n1_; have GW101 := n2_; have GE101 := n3_; clear n0_ n1_ n2_ n3_; clear hb hbox hg; have hcz5_0 : w4.cell? ⟨gb101, 0, none⟩ = some (.slice A0_0 l0_0.length c0_0) := (blk_cell BK101.out 0).trans rfl; have hcz5_1 : w4.cell? ⟨gb101, 1, none⟩ = some (.slice A0_1 l0_1.length c0_1) := (blk_cell BK101.out 1).trans rfl; have hfz5_0 := blk_frozen BK101.out 0; have hfz5_1 := blk_frozen BK101.out 1) | ((with_reducible refine gate_callee (f := 21) rfl ?_); refine goesL_ (some 13) rfl rfl Try.func21 (by kernel_rfl) rfl #[.agg #[.slice A0_0 l0_0.length c0_0, .slice A0_1 l0_1.length c0_1], .int .i64 1048576] rfl (pY38) ?_; (with_reducible refine (laws_szShareBook.calls k _ _ l0_0 _ _ l0_1 1048576 t102 _ ?side1 ?side2 ?side3 ?side4 A2.out).mono ?_); (case side1 => exact pC (Kd.C_below HR0_0.out HB.out)); (case side2 => exact HC0_0.out); (case side3 => exact pC (Kd.C_below HR0_1.out HB.out)); (case side4 => exact HC0_1.out); rintro e w6 ⟨rfl, hb⟩; refine ⟨_, rfl, ?_⟩; have n0_ := Aside0.mk (blk_below (g := gb101) (o := .cells #[.slice A0_0 l0_0.length c0_0, .slice A0_1 l0_1.length c0_1] 26 (0, 0)) (pY40) hb); have n1_ := Aside0.mk (below_step (pY37) hb); clear BK101; clear HB; have BK101 := n0_; have HB := n1_; clear n0_ n1_; (try clear hb); (try clear hb2); (try clear hk); (try clear hi)))
  go_ret
  exact ⟨by first | rfl | (simp [errW_none, errW_some] <;> rfl) | (simp [*, errW_none, errW_some] <;> rfl), pY37⟩
 ·rw [if_neg c3] at H
  have c3b0 : decide (t102 < 0) = false := decide_eq_false c3
  clear c3
  replace H := Option.bind_eq_some_iff.mp H
  obtain ⟨⟨t103, t106⟩, A70, H⟩ := H
  replace H : ((spec_ShareMoves.f k t103 t106).bind fun t109 => ((laws_toShareBook.f k l0_0 l0_1).bind fun bt112 => ((impl_ShareMoves.f k bt112.1 bt112.2).bind fun t119 => ((laws_eqStringS.f k t119 t109).bind fun t122 => (if t122 = true then ((laws_toShareBook.f k l0_0 l0_1).bind fun bt123 => ((laws_eqShareBook.f k bt112.1 bt112.2 bt123.1 bt123.2).bind fun t129 => (if t129 = true then ((laws_markShareBook.f k bt112.1 bt112.2 1).bind fun t130 => (if t130 < 0 then (laws_FnExactShareMoves.j0 k t109 t119 true l0_0 l0_1) else ((laws_eqStringS.f k t119 t109).bind fun t131 => (laws_FnExactShareMoves.j0 k t109 t119 (!t131) l0_0 l0_1)))) else (some false)))) else (some false)))))) = some r := H
  have A7 := Aside0.mk A70
  clear A70
  replace H := Option.bind_eq_some_iff.mp H
  obtain ⟨t109, A80, H⟩ := H
  replace H : ((laws_toShareBook.f k l0_0 l0_1).bind fun bt112 => ((impl_ShareMoves.f k bt112.1 bt112.2).bind fun t119 => ((laws_eqStringS.f k t119 t109).bind fun t122 => (if t122 = true then ((laws_toShareBook.f k l0_0 l0_1).bind fun bt123 => ((laws_eqShareBook.f k bt112.1 bt112.2 bt123.1 bt123.2).bind fun t129 => (if t129 = true then ((laws_markShareBook.f k bt112.1 bt112.2 1).bind fun t130 => (if t130 < 0 then (laws_FnExactShareMoves.j0 k t109 t119 true l0_0 l0_1) else ((laws_eqStringS.f k t119 t109).bind fun t131 => (laws_FnExactShareMoves.j0 k t109 t119 (!t131) l0_0 l0_1)))) else (some false)))) else (some false))))) = some r := H
  have A8 := Aside0.mk A80
  clear A80
  replace H := Option.bind_eq_some_iff.mp H
  obtain ⟨⟨t112, t115⟩, A90, H⟩ := H
  replace H : ((impl_ShareMoves.f k t112 t115).bind fun t119 => ((laws_eqStringS.f k t119 t109).bind fun t122 => (if t122 = true then ((laws_toShareBook.f k l0_0 l0_1).bind fun bt123 => ((laws_eqShareBook.f k t112 t115 bt123.1 bt123.2).bind fun t129 => (if t129 = true then ((laws_markShareBook.f k t112 t115 1).bind fun t130 => (if t130 < 0 then (laws_FnExactShareMoves.j0 k t109 t119 true l0_0 l0_1) else ((laws_eqStringS.f k t119 t109).bind fun t131 => (laws_FnExactShareMoves.j0 k t109 t119 (!t131) l0_0 l0_1)))) else (some false)))) else (some false)))) = some r := H
  have A9 := Aside0.mk A90
  clear A90
  replace H := Option.bind_eq_some_iff.mp H
  obtain ⟨t119, A100, H⟩ := H
  replace H : ((laws_eqStringS.f k t119 t109).bind fun t122 => (if t122 = true then ((laws_toShareBook.f k l0_0 l0_1).bind fun bt123 => ((laws_eqShareBook.f k t112 t115 bt123.1 bt123.2).bind fun t129 => (if t129 = true then ((laws_markShareBook.f k t112 t115 1).bind fun t130 => (if t130 < 0 then (laws_FnExactShareMoves.j0 k t109 t119 true l0_0 l0_1) else ((laws_eqStringS.f k t119 t109).bind fun t131 => (laws_FnExactShareMoves.j0 k t109 t119 (!t131) l0_0 l0_1)))) else (some false)))) else (some false))) = some r := H
  have A10 := Aside0.mk A100
  clear A100
  replace H := Option.bind_eq_some_iff.mp H
  obtain ⟨t122, A110, H⟩ := H
  replace H : (if t122 = true then ((laws_toShareBook.f k l0_0 l0_1).bind fun bt123 => ((laws_eqShareBook.f k t112 t115 bt123.1 bt123.2).bind fun t129 => (if t129 = true then ((laws_markShareBook.f k t112 t115 1).bind fun t130 => (if t130 < 0 then (laws_FnExactShareMoves.j0 k t109 t119 true l0_0 l0_1) else ((laws_eqStringS.f k t119 t109).bind fun t131 => (laws_FnExactShareMoves.j0 k t109 t119 (!t131) l0_0 l0_1)))) else (some false)))) else (some false)) = some r := H
  have A11 := Aside0.mk A110
  clear A110
  by_cases c12 : t122 = true
  ·subst c12
   have H1 : ((laws_toShareBook.f k l0_0 l0_1).bind fun bt123 => ((laws_eqShareBook.f k t112 t115 bt123.1 bt123.2).bind fun t129 => (if t129 = true then ((laws_markShareBook.f k t112 t115 1).bind fun t130 => (if t130 < 0 then (laws_FnExactShareMoves.j0 k t109 t119 true l0_0 l0_1) else ((laws_eqStringS.f k t119 t109).bind fun t131 => (laws_FnExactShareMoves.j0 k t109 t119 (!t131) l0_0 l0_1)))) else (some false)))) = some r := by rw [if_pos rfl] at H; exact H
   clear H
   have H := H1
   clear H1
   replace H := Option.bind_eq_some_iff.mp H
   obtain ⟨⟨t123, t126⟩, A130, H⟩ := H
   replace H : ((laws_eqShareBook.f k t112 t115 t123 t126).bind fun t129 => (if t129 = true then ((laws_markShareBook.f k t112 t115 1).bind fun t130 => (if t130 < 0 then (laws_FnExactShareMoves.j0 k t109 t119 true l0_0 l0_1) else ((laws_eqStringS.f k t119 t109).bind fun t131 => (laws_FnExactShareMoves.j0 k t109 t119 (!t131) l0_0 l0_1)))) else (some false))) = some r := H
   have A13 := Aside0.mk A130
   clear A130
   replace H := Option.bind_eq_some_iff.mp H
   obtain ⟨t129, A140, H⟩ := H
   replace H : (if t129 = true then ((laws_markShareBook.f k t112 t115 1).bind fun t130 => (if t130 < 0 then (laws_FnExactShareMoves.j0 k t109 t119 true l0_0 l0_1) else ((laws_eqStringS.f k t119 t109).bind fun t131 => (laws_FnExactShareMoves.j0 k t109 t119 (!t131) l0_0 l0_1)))) else (some false)) = some r := H
   have A14 := Aside0.mk A140
   clear A140
   by_cases c15 : t129 = true
   ·subst c15
    have H1 : ((laws_markShareBook.f k t112 t115 1).bind fun t130 => (if t130 < 0 then (laws_FnExactShareMoves.j0 k t109 t119 true l0_0 l0_1) else ((laws_eqStringS.f k t119 t109).bind fun t131 => (laws_FnExactShareMoves.j0 k t109 t119 (!t131) l0_0 l0_1)))) = some r := by rw [if_pos rfl] at H; exact H
    clear H
    have H := H1
    clear H1
    replace H := Option.bind_eq_some_iff.mp H
    obtain ⟨t130, A160, H⟩ := H
    replace H : (if t130 < 0 then (laws_FnExactShareMoves.j0 k t109 t119 true l0_0 l0_1) else ((laws_eqStringS.f k t119 t109).bind fun t131 => (laws_FnExactShareMoves.j0 k t109 t119 (!t131) l0_0 l0_1))) = some r := H
    have A16 := Aside0.mk A160
    clear A160
    have HC17 := Aside0.mk H
    clear H
    go_enter Try.func10, Try.ntmps10
    try go_wp2_with (first | ((with_reducible refine gate_dst (N := 1) rfl ?_); refine box_event ?hg (N := 1) ?hd (cs := #[.slice A0_0 l0_0.length c0_0, .slice A0_1 l0_1.length c0_1]) (t := 26) ?hr ?_; (case hd => rfl); (case hg => rfl); (case hr => first | (go_simp; done) | (go_simp; rfl)); intro gb101 hg w18 hbox hb; have n0_ := Aside0.mk (below_step (pY39) hb); have n1_ := Aside0.mk (hbox); have n2_ := Aside0.mk ((pY36 : w.heap.size ≤ gb101)); have n3_ := Aside0.mk ((pY36 : w.heap.size ≤ gb101)); clear HB; have HB := n0_; have BK101 := n1_; have GW101 := n2_; have GE101 := n3_; clear n0_ n1_ n2_ n3_; clear hb hbox hg; have hcz19_0 : w18.cell? ⟨gb101, 0, none⟩ = some (.slice A0_0 l0_0.length c0_0) := (blk_cell BK101.out 0).trans rfl; have hcz19_1 : w18.cell? ⟨gb101, 1, none⟩ = some (.slice A0_1 l0_1.length c0_1) := (blk_cell BK101.out 1).trans rfl; have hfz19_0 := blk_frozen BK101.out 0; have hfz19_1 := blk_frozen BK101.out 1) | ((with_reducible refine gate_callee (f := 21) rfl ?_); refine goesL_ (some 13) rfl rfl Try.func21 (by kernel_rfl) rfl #[.agg #[.slice A0_0 l0_0.length c0_0, .slice A0_1 l0_1.length c0_1], .int .i64 1048576] rfl (pY38) ?_; (with_reducible refine (laws_szShareBook.calls k _ _ l0_0 _ _ l0_1 1048576 t102 _ ?side1 ?side2 ?side3 ?side4 A2.out).mono ?_); (case side1 => exact pC (Kd.C_below HR0_0.out HB.out)); (case side2 => exact HC0_0.out); (case side3 => exact pC (Kd.C_below HR0_1.out HB.out)); (case side4 => exact HC0_1.out); rintro e w20 ⟨rfl, hb⟩; refine ⟨_, rfl, ?_⟩; have n0_ := Aside0.mk (blk_below (g := gb101) (o := .cells #[.slice A0_0 l0_0.length c0_0, .slice A0_1 l0_1.length c0_1] 26 (0, 0)) (pY40) hb); have n1_ := Aside0.mk (below_step (pY37) hb); clear BK101; clear HB; have BK101 := n0_; have HB := n1_; clear n0_ n1_; (try clear hb); (try clear hb2); (try clear hk); (try clear hi); have hcz21_0 : w20.cell? ⟨gb101, 0, none⟩ = some (.slice A0_0 l0_0.length c0_0) := (blk_cell BK101.out 0).trans rfl; have hcz21_1 : w20.cell? ⟨gb101, 1, none⟩ = some (.slice A0_1 l0_1.length c0_1) := (blk_cell BK101.out 1).trans rfl; have hfz21_0 := blk_frozen BK101.out 0; have hfz21_1 := blk_frozen BK101.out 1) | ((with_reducible refine gate_callee (f := 23) rfl ?_); refine goesL_ (some 17) rfl rfl Try.func23 (by kernel_rfl) rfl #[.agg #[.slice A0_0 l0_0.length c0_0, .slice A0_1 l0_1.length c0_1]] rfl (pY38) ?_; (with_reducible refine (laws_toShareBook.calls k _ _ l0_0 _ _ l0_1 t103 t106 _ ?side1 ?side2 ?side3 ?side4 A7.out).mono ?_); (case side1 => exact pC (Kd.C_below HR0_0.out HB.out)); (case side2 => exact HC0_0.out); (case side3 => exact pC (Kd.C_below HR0_1.out HB.out)); (case side4 => exact HC0_1.out); rintro e w22 ⟨v104, v107, rfl, ho0, ho1, hb⟩; refine ⟨_, rfl, ?_⟩; have n0_ := Aside0.mk (Kd.R_lower ho0 (below_size (pY37))); have n1_ := Aside0.mk (Kd.S_lower ho1 (below_size (pY37))); have n2_ := Aside0.mk (blk_below (g := gb101) (o := .cells #[.slice A0_0 l0_0.length c0_0, .slice A0_1 l0_1.length c0_1] 26 (0, 0)) (pY40) hb); have n3_ := Aside0.mk (below_step (pY37) hb); clear BK101; clear HB; have HO105 := n0_; have HO108 := n1_; have BK101 := n2_; have HB := n3_; clear n0_ n1_ n2_ n3_; (try clear hb); (try clear hb2); (try clear hk); (try clear hi); (try clear ho0); (try clear ho1); obtain ⟨Ao23, co23, eo23⟩ := Kd.R_slice HO105.out; subst eo23; obtain ⟨Ao24, co24, eo24⟩ := Kd.S_slice HO108.out; subst eo24) | ((with_reducible refine gate_callee (f := 42) rfl ?_); refine goesL_ (some 18) rfl rfl Try.func42 (by kernel_rfl) rfl #[.agg #[.slice Ao23 t103.length co23, .slice Ao24 t106.length co24]] rfl (pY38) ?_; (with_reducible refine (spec_ShareMoves.calls k _ _ t103 _ _ t106 t109 _ ?side1 ?side2 ?side3 ?side4 A8.out).mono ?_); (case side1 => exact pC (Kd.R_reads' HO105.out).2.2); (case side2 => exact (Kd.R_reads' HO105.out).2.1); (case side3 => exact pC (Kd.S_reads' HO108.out).2.2); (case side4 => exact (Kd.S_reads' HO108.out).2.1); rintro e w25 ⟨v110, rfl, ho0, hb⟩; refine ⟨_, rfl, ?_⟩; have n0_ := Aside0.mk (Kd.R_elder' (pY44) (Kd.R_base ho0) hb); have n1_ := Aside0.mk (Kd.S_elder' (pY45) (Kd.R_base ho0) hb); have n2_ := Aside0.mk (Kd.R_lower (Kd.R_new' ho0 (Kd.R_lt (pY44))) (below_size (pY37))); have n3_ := Aside0.mk (blk_below (g := gb101) (o := .cells #[.slice A0_0 l0_0.length c0_0, .slice A0_1 l0_1.length c0_1] 26 (0, 0)) (pY40) hb); have n4_ := Aside0.mk (below_step (pY37) hb); clear HO105; clear HO108; clear BK101; clear HB; have HO105 := n0_; have HO108 := n1_; have HO111 := n2_; have BK101 := n3_; have HB := n4_; clear n0_ n1_ n2_ n3_ n4_; (try clear hb); (try clear hb2); (try clear hk); (try clear hi); (try clear ho0); have hcz26_0 : w25.cell? ⟨gb101, 0, none⟩ = some (.slice A0_0 l0_0.length c0_0) := (blk_cell BK101.out 0).trans rfl; have hcz26_1 : w25.cell? ⟨gb101, 1, none⟩ = some (.slice A0_1 l0_1.length c0_1) := (blk_cell BK101.out 1).trans rfl; have hfz26_0 := blk_frozen BK101.out 0; have hfz26_1 := blk_frozen BK101.out 1) | ((with_reducible refine gate_callee (f := 23) rfl ?_); refine goesL_ (some 20) rfl rfl Try.func23 (by kernel_rfl) rfl #[.agg #[.slice A0_0 l0_0.length c0_0, .slice A0_1 l0_1.length c0_1]] rfl (pY38) ?_; (with_reducible refine (laws_toShareBook.calls k _ _ l0_0 _ _ l0_1 t112 t115 _ ?side1 ?side2 ?side3 ?side4 A9.out).mono ?_); (case side1 => exact pC (Kd.C_below HR0_0.out HB.out)); (case side2 => exact HC0_0.out); (case side3 => exact pC (Kd.C_below HR0_1.out HB.out)); (case side4 => exact HC0_1.out); rintro e w27 ⟨v113, v116, rfl, ho0, ho1, hb⟩; refine ⟨_, rfl, ?_⟩; have n0_ := Aside0.mk (Kd.R_elder' (pY44) (Kd.R_base ho0) hb); have n1_ := Aside0.mk (Kd.S_mono (Kd.S_told (Kd.S_told (Kd.S_old (pY45) hb) (Kd.R_base ho0)) (Kd.S_base ho1)) (fun _ h_ => h_.1)); have n2_ := Aside0.mk (Kd.R_elder' (pY46) (Kd.R_base ho0) hb); have n3_ := Aside0.mk (Kd.R_lower (Kd.R_new' (Kd.R_new' ho0 (Kd.R_lt (pY44))) (Kd.R_lt (pY46))) (below_size (pY37))); have n4_ := Aside0.mk (Kd.S_lower (Kd.S_new' (Kd.S_new' (Kd.S_new' ho1 (Kd.R_lt (pY44))) (Kd.S_lt (pY45))) (Kd.R_lt (pY46))) (below_size (pY37))); have n5_ := Aside0.mk (blk_below (g := gb101) (o := .cells #[.slice A0_0 l0_0.length c0_0, .slice A0_1 l0_1.length c0_1] 26 (0, 0)) (pY40) hb); have n6_ := Aside0.mk (below_step (pY37) hb); clear HO105; clear HO108; clear HO111; clear BK101; clear HB; have HO105 := n0_; have HO108 := n1_; have HO111 := n2_; have HO114 := n3_; have HO117 := n4_; have BK101 := n5_; have HB := n6_; clear n0_ n1_ n2_ n3_ n4_ n5_ n6_; (try clear hb); (try clear hb2); (try clear hk); (try clear hi); (try clear ho0); (try clear ho1)) | ((with_reducible refine gate_dst (N := 5) rfl ?_); refine box_event ?hg (N := 5) ?hd (cs := #[.slice none 0 0, .slice none 0 0]) (t := 31) ?hr ?_; (case hd => rfl); (case hg => rfl); (case hr => first | (go_simp; done) | (go_simp; rfl)); intro gb118 hg w28 hbox hb; have n0_ := Aside0.mk (Kd.R_below (pY44) hb); have n1_ := Aside0.mk (Kd.S_below (pY45) hb); have n2_ := Aside0.mk (Kd.R_below (pY46) hb); have n3_ := Aside0.mk (Kd.R_below (pY47) hb); have n4_ := Aside0.mk (Kd.S_below (pY48) hb); have n5_ := Aside0.mk (blk_below (g := gb101) (o := .cells #[.slice A0_0 l0_0.length c0_0, .slice A0_1 l0_1.length c0_1] 26 (0, 0)) (pY40) hb); have n6_ := Aside0.mk (below_step (pY37) hb); have n7_ := Aside0.mk (hbox); have n8_ := Aside0.mk ((pY27 : w.heap.size ≤ gb118)); have n9_ := Aside0.mk ((pY27 : w.heap.size ≤ gb118)); have n10_ := Aside0.mk ((pY19 : gb101 ≠ gb118)); have n11_ := Aside0.mk ((pY20 : gb118 ≠ gb101)); clear HO105; clear HO108; clear HO111; clear HO114; clear HO117; clear BK101; clear HB; have HO105 := n0_; have HO108 := n1_; have HO111 := n2_; have HO114 := n3_; have HO117 := n4_; have BK101 := n5_; have HB := n6_; have BK118 := n7_; have GW118 := n8_; have GE118 := n9_; have NB101_118 := n10_; have NB118_101 := n11_; clear n0_ n1_ n2_ n3_ n4_ n5_ n6_ n7_ n8_ n9_ n10_ n11_; clear hb hbox hg; obtain ⟨Ao29, co29, eo29⟩ := Kd.R_slice HO114.out; subst eo29; have hnb30 := NB118_101.out; have hnc30 := NB101_118.out; have hcz31_0 : w28.cell? ⟨gb118, 0, none⟩ = some (.slice none 0 0) := (blk_cell BK118.out 0).trans rfl; have hcz31_1 : w28.cell? ⟨gb118, 1, none⟩ = some (.slice none 0 0) := (blk_cell BK118.out 1).trans rfl; have hfz31_0 := blk_frozen BK118.out 0; have hfz31_1 := blk_frozen BK118.out 1; obtain ⟨Ao32, co32, eo32⟩ := Kd.S_slice HO117.out; subst eo32) | ((with_reducible refine gate_callee (f := 43) rfl ?_); refine goesL_ (some 22) rfl rfl Try.func43 (by kernel_rfl) rfl #[.agg #[.slice Ao29 t112.length co29, .slice Ao32 t115.length co32]] rfl (pY38) ?_; (with_reducible refine (impl_ShareMoves.calls k _ _ t112 _ _ t115 t119 _ ?side1 ?side2 ?side3 ?side4 A10.out).mono ?_); (case side1 => refine (Kd.R_reads' (e := 9) (base := w.heap.size) (ok := fun k_ => ((True ∧ some k_ ≠ (.slice Ao23 t103.length co23 : Value).ownBlock) ∧ some k_ ≠ (v110 : Value).ownBlock)) (n := t112.length) (c := co29) ?_).2.2; exact (pY11)); (case side2 => exact (Kd.R_reads' HO114.out).2.1); (case side3 => refine (Kd.S_reads' (e := 56) (base := w.heap.size) (ok := fun k_ => (((some k_ ≠ (.slice Ao29 t112.length co29 : Value).ownBlock ∧ some k_ ≠ (.slice Ao23 t103.length co23 : Value).ownBlock) ∧ some k_ ≠ (.slice Ao24 t106.length co24 : Value).ownBlock) ∧ some k_ ≠ (v110 : Value).ownBlock)) (n := t115.length) (c := co32) ?_).2.2; exact (by (with_reducible repeat (first | apply Kd.S_alloc | apply Kd.S_drewN | apply Kd.S_drew)); exact (Kd.S_mono (Kd.S_far (p := ⟨gb118, 1, none⟩) (Kd.S_far (p := ⟨gb118, 0, none⟩) (Kd.S_types HO117.out BK118.out (by decide)) (fun _ hk => hk.2) (.slice Ao29 t112.length co29)) (fun _ hk => hk.2) (.slice Ao32 t115.length co32)) (fun _ h_ => h_.1)))); (case side4 => exact (Kd.S_reads' HO117.out).2.1); rintro e w33 ⟨v120, rfl, ho0, hb⟩; refine ⟨_, rfl, ?_⟩; have n0_ := Aside0.mk (Kd.R_elder' (by (with_reducible repeat (first | apply Kd.R_alloc | apply Kd.R_drewN | apply Kd.R_drew)); exact (Kd.R_mono (Kd.R_far (p := ⟨gb118, 1, none⟩) (Kd.R_far (p := ⟨gb118, 0, none⟩) (Kd.R_types HO105.out BK118.out (by decide)) (fun _ hk => hk.2) (.slice Ao29 t112.length co29)) (fun _ hk => hk.2) (.slice Ao32 t115.length co32)) (fun _ h_ => h_.1))) (Kd.R_base ho0) hb); have n1_ := Aside0.mk (Kd.S_elder' (by (with_reducible repeat (first | apply Kd.S_alloc | apply Kd.S_drewN | apply Kd.S_drew)); exact (Kd.S_mono (Kd.S_far (p := ⟨gb118, 1, none⟩) (Kd.S_far (p := ⟨gb118, 0, none⟩) (Kd.S_types HO108.out BK118.out (by decide)) (fun _ hk => hk.2) (.slice Ao29 t112.length co29)) (fun _ hk => hk.2) (.slice Ao32 t115.length co32)) (fun _ h_ => h_.1))) (Kd.R_base ho0) hb); have n2_ := Aside0.mk (Kd.R_elder' (by (with_reducible repeat (first | apply Kd.R_alloc | apply Kd.R_drewN | apply Kd.R_drew)); exact (Kd.R_mono (Kd.R_far (p := ⟨gb118, 1, none⟩) (Kd.R_far (p := ⟨gb118, 0, none⟩) (Kd.R_types HO111.out BK118.out (by decide)) (fun _ hk => hk.2) (.slice Ao29 t112.length co29)) (fun _ hk => hk.2) (.slice Ao32 t115.length co32)) (fun _ h_ => h_.1))) (Kd.R_base ho0) hb); have n3_ := Aside0.mk (Kd.R_elder' (pY11) (Kd.R_base ho0) hb); have n4_ := Aside0.mk (Kd.S_elder' (by (with_reducible repeat (first | apply Kd.S_alloc | apply Kd.S_drewN | apply Kd.S_drew)); exact (Kd.S_mono (Kd.S_far (p := ⟨gb118, 1, none⟩) (Kd.S_far (p := ⟨gb118, 0, none⟩) (Kd.S_types HO117.out BK118.out (by decide)) (fun _ hk => hk.2) (.slice Ao29 t112.length co29)) (fun _ hk => hk.2) (.slice Ao32 t115.length co32)) (fun _ h_ => h_.1))) (Kd.R_base ho0) hb); have n5_ := Aside0.mk (Kd.R_lower (Kd.R_new' (Kd.R_new' (Kd.R_new' ho0 (Kd.R_lt (by (with_reducible repeat (first | apply Kd.R_alloc | apply Kd.R_drewN | apply Kd.R_drew)); exact (Kd.R_mono (Kd.R_far (p := ⟨gb118, 1, none⟩) (Kd.R_far (p := ⟨gb118, 0, none⟩) (Kd.R_types HO105.out BK118.out (by decide)) (fun _ hk => hk.2) (.slice Ao29 t112.length co29)) (fun _ hk => hk.2) (.slice Ao32 t115.length co32)) (fun _ h_ => h_.1))))) (Kd.R_lt (by (with_reducible repeat (first | apply Kd.R_alloc | apply Kd.R_drewN | apply Kd.R_drew)); exact (Kd.R_mono (Kd.R_far (p := ⟨gb118, 1, none⟩) (Kd.R_far (p := ⟨gb118, 0, none⟩) (Kd.R_types HO111.out BK118.out (by decide)) (fun _ hk => hk.2) (.slice Ao29 t112.length co29)) (fun _ hk => hk.2) (.slice Ao32 t115.length co32)) (fun _ h_ => h_.1))))) (Kd.R_lt (pY11))) (below_size (pY34))); have n6_ := Aside0.mk (blk_below (g := gb101) (o := .cells #[.slice A0_0 l0_0.length c0_0, .slice A0_1 l0_1.length c0_1] 26 (0, 0)) (pY5) hb); have n7_ := Aside0.mk (blk_below (g := gb118) (o := .cells #[.slice Ao29 t112.length co29, .slice Ao32 t115.length co32] 31 (0, 0)) (by (with_reducible repeat (first | refine blk_drewN ?_ _ | refine blk_drew ?_ | refine blk_alloc ?_ _)); refine blk_put (cs := #[.slice Ao29 t112.length co29, .slice none 0 0]) ?_ 1 _ rfl; (with_reducible repeat (first | refine blk_drewN ?_ _ | refine blk_drew ?_ | refine blk_alloc ?_ _)); refine blk_put (cs := #[.slice none 0 0, .slice none 0 0]) ?_ 0 _ rfl; (with_reducible repeat (first | refine blk_drewN ?_ _ | refine blk_drew ?_ | refine blk_alloc ?_ _)); exact BK118.out) hb); have n8_ := Aside0.mk (below_step (pY34) hb); clear HO105; clear HO108; clear HO111; clear HO114; clear HO117; clear BK101; clear BK118; clear HB; have HO105 := n0_; have HO108 := n1_; have HO111 := n2_; have HO114 := n3_; have HO117 := n4_; have HO121 := n5_; have BK101 := n6_; have BK118 := n7_; have HB := n8_; clear n0_ n1_ n2_ n3_ n4_ n5_ n6_ n7_ n8_; (try clear hb); (try clear hb2); (try clear hk); (try clear hi); (try clear ho0); obtain ⟨Ao34, co34, eo34⟩ := Kd.R_slice HO121.out; subst eo34; obtain ⟨Ao35, co35, eo35⟩ := Kd.R_slice HO111.out; subst eo35) | ((with_reducible refine gate_callee (f := 34) rfl ?_); refine goesL_ (some 25) rfl rfl Try.func34 (by kernel_rfl) rfl #[.slice Ao34 t119.length co34, .slice Ao35 t109.length co35] rfl (pY38) ?_; (with_reducible refine (laws_eqStringS.calls k _ _ t119 _ _ t109 true _ ?side1 ?side2 ?side3 ?side4 A11.out).mono ?_); (case side1 => exact pC (Kd.R_reads' HO121.out).2.2); (case side2 => exact (Kd.R_reads' HO121.out).2.1); (case side3 => exact pC (Kd.R_reads' HO111.out).2.2); (case side4 => exact (Kd.R_reads' HO111.out).2.1); rintro e w' ⟨rfl, ⟨nd, rfl⟩⟩; refine ⟨_, rfl, ?_⟩))
    (try (rw [drewN_self w33]; generalize hq_ : World.drewN w33 _ = w33; have n0_ : Aside0 (Kd.R Kd.string 9 w33 w.heap.size (fun k_ => (((True ∧ some k_ ≠ (.slice Ao35 t109.length co35 : Value).ownBlock) ∧ some k_ ≠ (.slice Ao29 t112.length co29 : Value).ownBlock) ∧ some k_ ≠ (.slice Ao34 t119.length co34 : Value).ownBlock)) (.slice Ao23 t103.length co23) t103) := ⟨by rw [← hq_]; exact (pY44)⟩; have n1_ : Aside0 (Kd.S k56 56 w33 w.heap.size (fun k_ => ((((some k_ ≠ (.slice Ao23 t103.length co23 : Value).ownBlock ∧ some k_ ≠ (.slice Ao35 t109.length co35 : Value).ownBlock) ∧ some k_ ≠ (.slice Ao29 t112.length co29 : Value).ownBlock) ∧ some k_ ≠ (.slice Ao32 t115.length co32 : Value).ownBlock) ∧ some k_ ≠ (.slice Ao34 t119.length co34 : Value).ownBlock)) (.slice Ao24 t106.length co24) t106) := ⟨by rw [← hq_]; exact (pY45)⟩; have n2_ : Aside0 (Kd.R Kd.string 9 w33 w.heap.size (fun k_ => (((True ∧ some k_ ≠ (.slice Ao23 t103.length co23 : Value).ownBlock) ∧ some k_ ≠ (.slice Ao29 t112.length co29 : Value).ownBlock) ∧ some k_ ≠ (.slice Ao34 t119.length co34 : Value).ownBlock)) (.slice Ao35 t109.length co35) t109) := ⟨by rw [← hq_]; exact (pY46)⟩; have n3_ : Aside0 (Kd.R Kd.string 9 w33 w.heap.size (fun k_ => (((True ∧ some k_ ≠ (.slice Ao23 t103.length co23 : Value).ownBlock) ∧ some k_ ≠ (.slice Ao35 t109.length co35 : Value).ownBlock) ∧ some k_ ≠ (.slice Ao34 t119.length co34 : Value).ownBlock)) (.slice Ao29 t112.length co29) t112) := ⟨by rw [← hq_]; exact (pY47)⟩; have n4_ : Aside0 (Kd.S k56 56 w33 w.heap.size (fun k_ => ((((some k_ ≠ (.slice Ao29 t112.length co29 : Value).ownBlock ∧ some k_ ≠ (.slice Ao23 t103.length co23 : Value).ownBlock) ∧ some k_ ≠ (.slice Ao24 t106.length co24 : Value).ownBlock) ∧ some k_ ≠ (.slice Ao35 t109.length co35 : Value).ownBlock) ∧ some k_ ≠ (.slice Ao34 t119.length co34 : Value).ownBlock)) (.slice Ao32 t115.length co32) t115) := ⟨by rw [← hq_]; exact (pY48)⟩; have n5_ : Aside0 (Kd.R Kd.string 9 w33 w.heap.size (fun k_ => (((True ∧ some k_ ≠ (.slice Ao23 t103.length co23 : Value).ownBlock) ∧ some k_ ≠ (.slice Ao35 t109.length co35 : Value).ownBlock) ∧ some k_ ≠ (.slice Ao29 t112.length co29 : Value).ownBlock)) (.slice Ao34 t119.length co34) t119) := ⟨by rw [← hq_]; exact (pY49)⟩; have n6_ : Aside0 (w33.heap[gb101]? = some (.cells #[.slice A0_0 l0_0.length c0_0, .slice A0_1 l0_1.length c0_1] 26 (0, 0))) := ⟨by rw [← hq_]; exact (pY40)⟩; have n7_ : Aside0 (w33.heap[gb118]? = some (.cells #[.slice Ao29 t112.length co29, .slice Ao32 t115.length co32] 31 (0, 0))) := ⟨by rw [← hq_]; exact (pY42)⟩; have n8_ : Aside0 (Below w.heap.size w w33) := ⟨by rw [← hq_]; exact (pY34)⟩; clear HO105 HO108 HO111 HO114 HO117 HO121 BK101 BK118 HB hq_; have HO105 := n0_; have HO108 := n1_; have HO111 := n2_; have HO114 := n3_; have HO117 := n4_; have HO121 := n5_; have BK101 := n6_; have BK118 := n7_; have HB := n8_; clear n0_ n1_ n2_ n3_ n4_ n5_ n6_ n7_ n8_))
    have n0_ := Aside0.mk (Kd.R_drew HO105.out)
    have n1_ := Aside0.mk (Kd.S_drew HO108.out)
    have n2_ := Aside0.mk (Kd.R_drew HO111.out)
    have n3_ := Aside0.mk (Kd.R_drew HO114.out)
    have n4_ := Aside0.mk (Kd.S_drew HO117.out)
    have n5_ := Aside0.mk (Kd.R_drew HO121.out)
    have n6_ := Aside0.mk (blk_drew BK101.out)
    have n7_ := Aside0.mk (blk_drew BK118.out)
    have n8_ := Aside0.mk (below_drew1 HB.out)
    clear HO105
    clear HO108
    clear HO111
    clear HO114
    clear HO117
    clear HO121
    clear BK101
    clear BK118
    clear HB
    have HO105 := n0_
    have HO108 := n1_
    have HO111 := n2_
    have HO114 := n3_
    have HO117 := n4_
    have HO121 := n5_
    have BK101 := n6_
    have BK118 := n7_
    have HB := n8_
    clear n0_ n1_ n2_ n3_ n4_ n5_ n6_ n7_ n8_
    refine start_ (n := 5) (S := fun w' => w'.cell? ⟨gb118, 0, none⟩ = some (.slice Ao29 t112.length co29) ∧ w'.cell? ⟨gb118, 1, none⟩ = some (.slice Ao32 t115.length co32) ∧ w'.cell? ⟨gb101, 0, none⟩ = some (.slice A0_0 l0_0.length c0_0) ∧ w'.cell? ⟨gb101, 1, none⟩ = some (.slice A0_1 l0_1.length c0_1)) (ds := []) #[false, false, false, false, false] (by kernel_rfl) rfl rfl ⟨(blk_cell BK118.out 0).trans rfl, (blk_cell BK118.out 1).trans rfl, (blk_cell BK101.out 0).trans rfl, (blk_cell BK101.out 1).trans rfl⟩ (fun hHeld => ?_)
    generalize w33.drew = w36 at HO105 HO108 HO111 HO114 HO117 HO121 BK101 BK118 HB hHeld ⊢
    refine tK4_ (i := 0) (N := some 27) #[true, false, false, false, false] ?_
    refine tK4_ (i := 1) (N := some 28) #[true, true, false, false, false] ?_
    refine one_ (i := 2) (N := some 29) #[true, true, true, false, false] rfl rfl (by kernel_rfl) (by decide) (fun K hK => ?_)
    refine goes_ Try.func23 (by kernel_rfl) rfl #[.agg #[.slice A0_0 l0_0.length c0_0, .slice A0_1 l0_1.length c0_1]] (by rfl) rfl rfl (pY38) ?_
    with_reducible refine (laws_toShareBook.calls k _ _ l0_0 _ _ l0_1 t123 t126 _ ?side1 ?side2 ?side3 ?side4 A13.out).mono ?_
    (case side1 => exact pC (Kd.C_below HR0_0.out HB.out))
    (case side2 => exact HC0_0.out)
    (case side3 => exact pC (Kd.C_below HR0_1.out HB.out))
    (case side4 => exact HC0_1.out)
    rintro e w37 ⟨v124, v127, rfl, ho0, ho1, hb⟩
    refine ⟨_, rfl, ?_⟩
    have n0_ := Aside0.mk (Kd.R_elder' (pY44) (Kd.R_base ho0) hb)
    have n1_ := Aside0.mk (Kd.S_mono (Kd.S_told (Kd.S_told (Kd.S_old (pY45) hb) (Kd.R_base ho0)) (Kd.S_base ho1)) (fun _ h_ => h_.1))
    have n2_ := Aside0.mk (Kd.R_elder' (pY46) (Kd.R_base ho0) hb)
    have n3_ := Aside0.mk (Kd.R_elder' (pY47) (Kd.R_base ho0) hb)
    have n4_ := Aside0.mk (Kd.S_mono (Kd.S_told (Kd.S_told (Kd.S_old (pY48) hb) (Kd.R_base ho0)) (Kd.S_base ho1)) (fun _ h_ => h_.1))
    have n5_ := Aside0.mk (Kd.R_elder' (pY49) (Kd.R_base ho0) hb)
    have n6_ := Aside0.mk (Kd.R_lower (Kd.R_new' (Kd.R_new' (Kd.R_new' (Kd.R_new' ho0 (Kd.R_lt (pY44))) (Kd.R_lt (pY46))) (Kd.R_lt (pY47))) (Kd.R_lt (pY49))) (below_size (pY34)))
    have n7_ := Aside0.mk (Kd.S_lower (Kd.S_new' (Kd.S_new' (Kd.S_new' (Kd.S_new' (Kd.S_new' (Kd.S_new' ho1 (Kd.R_lt (pY44))) (Kd.S_lt (pY45))) (Kd.R_lt (pY46))) (Kd.R_lt (pY47))) (Kd.S_lt (pY48))) (Kd.R_lt (pY49))) (below_size (pY34)))
    have n8_ := Aside0.mk (blk_below (g := gb101) (o := .cells #[.slice A0_0 l0_0.length c0_0, .slice A0_1 l0_1.length c0_1] 26 (0, 0)) (pY40) hb)
    have n9_ := Aside0.mk (blk_below (g := gb118) (o := .cells #[.slice Ao29 t112.length co29, .slice Ao32 t115.length co32] 31 (0, 0)) (pY42) hb)
    have n10_ := Aside0.mk (below_step (pY34) hb)
    clear HO105
    clear HO108
    clear HO111
    clear HO114
    clear HO117
    clear HO121
    clear BK101
    clear BK118
    clear HB
    have HO105 := n0_
    have HO108 := n1_
    have HO111 := n2_
    have HO114 := n3_
    have HO117 := n4_
    have HO121 := n5_
    have HO125 := n6_
    have HO128 := n7_
    have BK101 := n8_
    have BK118 := n9_
    have HB := n10_
    clear n0_ n1_ n2_ n3_ n4_ n5_ n6_ n7_ n8_ n9_ n10_
    (try clear hb)
    (try clear hb2)
    (try clear hk)
    (try clear hi)
    (try clear ho0)
    (try clear ho1)
    obtain ⟨Ao38, co38, eo38⟩ := Kd.R_slice HO125.out
    (first | subst eo38 | (injection eo38 with f1_ f2_ f3_; have f4_ := f1_.symm; have f5_ := f3_.symm; clear f1_ f2_ f3_; subst f4_; subst f5_))
    obtain ⟨Ao39, co39, eo39⟩ := Kd.S_slice HO128.out
    (first | subst eo39 | (injection eo39 with f1_ f2_ f3_; have f4_ := f1_.symm; have f5_ := f3_.symm; clear f1_ f2_ f3_; subst f4_; subst f5_))
    refine hK.out _ _ ⟨(blk_cell BK118.out 0).trans rfl, (blk_cell BK118.out 1).trans rfl, (blk_cell BK101.out 0).trans rfl, (blk_cell BK101.out 1).trans rfl⟩ (fun hHeld => ?_)
    clear hK K
    refine norm_ (a' := ?_) ?_ ?_
    rotate_left
    ·show Act.put _ (some 29) _ = _
     simp only [pW]
     rfl
    refine one_ (i := 3) (N := some 30) #[true, true, true, true, false] rfl rfl (by kernel_rfl) (by decide) (fun K hK => ?_)
    refine goes_ Try.func25 (by kernel_rfl) rfl #[.agg #[.slice Ao29 t112.length co29, .slice Ao32 t115.length co32], .agg #[.slice Ao38 t123.length co38, .slice Ao39 t126.length co39]] (by rfl) rfl rfl (pY38) ?_
    with_reducible refine (laws_eqShareBook.calls k _ _ t112 _ _ t115 _ _ t123 _ _ t126 true _ ?side1 ?side2 ?side3 ?side4 ?side5 ?side6 ?side7 ?side8 A14.out).mono ?_
    (case side1 => exact pC (Kd.R_reads' HO114.out).2.2)
    (case side2 => exact (Kd.R_reads' HO114.out).2.1)
    (case side3 => exact pC (Kd.S_reads' HO117.out).2.2)
    (case side4 => exact (Kd.S_reads' HO117.out).2.1)
    (case side5 => exact pC (Kd.R_reads' HO125.out).2.2)
    (case side6 => exact (Kd.R_reads' HO125.out).2.1)
    (case side7 => exact pC (Kd.S_reads' HO128.out).2.2)
    (case side8 => exact (Kd.S_reads' HO128.out).2.1)
    rintro e w40 ⟨rfl, hb⟩
    refine ⟨_, rfl, ?_⟩
    have n0_ := Aside0.mk (Kd.R_below (pY44) hb)
    have n1_ := Aside0.mk (Kd.S_below (pY45) hb)
    have n2_ := Aside0.mk (Kd.R_below (pY46) hb)
    have n3_ := Aside0.mk (Kd.R_below (pY47) hb)
    have n4_ := Aside0.mk (Kd.S_below (pY48) hb)
    have n5_ := Aside0.mk (Kd.R_below (pY49) hb)
    have n6_ := Aside0.mk (Kd.R_below (by (with_reducible repeat (first | apply Kd.R_alloc | apply Kd.R_drewN | apply Kd.R_drew)); exact HO125.out) hb)
    have n7_ := Aside0.mk (Kd.S_below (by (with_reducible repeat (first | apply Kd.S_alloc | apply Kd.S_drewN | apply Kd.S_drew)); exact HO128.out) hb)
    have n8_ := Aside0.mk (blk_below (g := gb101) (o := .cells #[.slice A0_0 l0_0.length c0_0, .slice A0_1 l0_1.length c0_1] 26 (0, 0)) (pY40) hb)
    have n9_ := Aside0.mk (blk_below (g := gb118) (o := .cells #[.slice Ao29 t112.length co29, .slice Ao32 t115.length co32] 31 (0, 0)) (pY42) hb)
    have n10_ := Aside0.mk (below_step (pY34) hb)
    clear HO105
    clear HO108
    clear HO111
    clear HO114
    clear HO117
    clear HO121
    clear HO125
    clear HO128
    clear BK101
    clear BK118
    clear HB
    have HO105 := n0_
    have HO108 := n1_
    have HO111 := n2_
    have HO114 := n3_
    have HO117 := n4_
    have HO121 := n5_
    have HO125 := n6_
    have HO128 := n7_
    have BK101 := n8_
    have BK118 := n9_
    have HB := n10_
    clear n0_ n1_ n2_ n3_ n4_ n5_ n6_ n7_ n8_ n9_ n10_
    (try clear hb)
    (try clear hb2)
    (try clear hk)
    (try clear hi)
    refine hK.out _ _ ⟨(blk_cell BK118.out 0).trans rfl, (blk_cell BK118.out 1).trans rfl, (blk_cell BK101.out 0).trans rfl, (blk_cell BK101.out 1).trans rfl⟩ (fun hHeld => ?_)
    clear hK K
    refine norm_ (a' := ?_) ?_ ?_
    rotate_left
    ·show Act.put _ (some 30) _ = _
     simp only [pW]
     rfl
    refine pU0 (i := 4) (N := some 31) #[true, true, true, true, true] ?_
    refine done_ (by kernel_rfl) ?_
    have hcz41_0 : w40.cell? ⟨gb118, 0, none⟩ = some (.slice Ao29 t112.length co29) := (blk_cell BK118.out 0).trans rfl
    have hcz41_1 : w40.cell? ⟨gb118, 1, none⟩ = some (.slice Ao32 t115.length co32) := (blk_cell BK118.out 1).trans rfl
    have hfz41_0 := blk_frozen BK118.out 0
    have hfz41_1 := blk_frozen BK118.out 1
    go_upto_region 14 with (first | ((with_reducible refine gate_callee (f := 39) rfl ?_); refine goesL_ (some 34) rfl rfl Try.func39 (by kernel_rfl) rfl #[.agg #[.slice Ao29 t112.length co29, .slice Ao32 t115.length co32], .int .i64 1] rfl (pY38) ?_; (with_reducible refine (laws_markShareBook.calls k (fun k_ => some k_ = (.slice Ao29 t112.length co29 : Value).ownBlock) (.slice Ao29 t112.length co29) t112 ?pN_ (.slice Ao32 t115.length co32) t115 1 t130 w _ ?side1 ?side2 ?side3 ?side4 A16.out).mono ?_); (case side1 => repeat (first | (with_reducible first | exact HB.out | apply below_alloc | apply pw_below_drewN | apply below_drew1 | refine below_set ?_ GE101.out | refine below_set ?_ GE118.out) | exact HB.out)); (case side2 => exact Kd.R_tight rfl HO114.out); (case side3 => exact Kd.S_bound (HO117.out)); (case side4 => exact fun k_ h_ e_ => (h_.1.1.1.1.1.1.1) e_); rintro e w42 ⟨rfl, hb, hkp⟩; refine ⟨_, rfl, ?_⟩; have n0_ := Aside0.mk (blk_kept (pY40) hkp (fun hs_ => Or.elim hs_ (fun e_ => (fun e_ => (Kd.R_ne HO114.out BK101.out (by decide)) e_) e_) (fun e_ => (fun hs_ => by (obtain ⟨_, _, _, q_, hq_, c_, hc_⟩ := hs_; have hb_ := (pY40); rw [hb_] at hc_; injection hc_ with hc_; injection hc_ with _ ht_ _; subst ht_; exact absurd hq_ (by decide))) e_))); have n1_ := Aside0.mk (Kd.R_mono (ok' := fun k_ => some k_ ≠ (.slice Ao35 t109.length co35 : Value).ownBlock ∧ some k_ ≠ (.slice Ao34 t119.length co34 : Value).ownBlock ∧ some k_ ≠ (.slice Ao38 t123.length co38 : Value).ownBlock) (Kd.R_keptB ((Kd.R_tight2 rfl HO105.out)) hkp (fun k_ hk_ hs_ => Or.elim hs_ (fun e_ => (hk_.2.1.1.2) e_) (fun e_ => (fun hs_ => (hs_.1.1.1.1.1.1.2) hk_.1) e_))) (fun k_ hk_ => ⟨hk_.1.2.1.1.1.2, hk_.1.2.1.2, hk_.1.2.2⟩)); have n2_ := Aside0.mk (Kd.R_mono (ok' := fun k_ => some k_ ≠ (.slice Ao23 t103.length co23 : Value).ownBlock ∧ some k_ ≠ (.slice Ao34 t119.length co34 : Value).ownBlock ∧ some k_ ≠ (.slice Ao38 t123.length co38 : Value).ownBlock) (Kd.R_keptB ((Kd.R_tight2 rfl HO111.out)) hkp (fun k_ hk_ hs_ => Or.elim hs_ (fun e_ => (hk_.2.1.1.2) e_) (fun e_ => (fun hs_ => (hs_.1.1.1.1.2) hk_.1) e_))) (fun k_ hk_ => ⟨hk_.1.2.1.1.1.2, hk_.1.2.1.2, hk_.1.2.2⟩)); have n3_ := Aside0.mk (blk_kept (pY42) hkp (fun hs_ => Or.elim hs_ (fun e_ => (fun e_ => (Kd.R_ne HO114.out BK118.out (by decide)) e_) e_) (fun e_ => (fun hs_ => by (obtain ⟨_, _, _, q_, hq_, c_, hc_⟩ := hs_; have hb_ := (pY42); rw [hb_] at hc_; injection hc_ with hc_; injection hc_ with _ ht_ _; subst ht_; exact absurd hq_ (by decide))) e_))); have n4_ := Aside0.mk (Kd.R_mono (ok' := fun k_ => some k_ ≠ (.slice Ao23 t103.length co23 : Value).ownBlock ∧ some k_ ≠ (.slice Ao35 t109.length co35 : Value).ownBlock ∧ some k_ ≠ (.slice Ao38 t123.length co38 : Value).ownBlock) (Kd.R_keptB ((Kd.R_tight2 rfl HO121.out)) hkp (fun k_ hk_ hs_ => Or.elim hs_ (fun e_ => (hk_.2.1.2) e_) (fun e_ => (fun hs_ => (hs_.1.1.1.2) hk_.1) e_))) (fun k_ hk_ => ⟨hk_.1.2.1.1.1.2, hk_.1.2.1.1.2, hk_.1.2.2⟩)); have n5_ := Aside0.mk (Kd.R_mono (ok' := fun k_ => some k_ ≠ (.slice Ao23 t103.length co23 : Value).ownBlock ∧ some k_ ≠ (.slice Ao35 t109.length co35 : Value).ownBlock ∧ some k_ ≠ (.slice Ao34 t119.length co34 : Value).ownBlock) (Kd.R_keptB ((Kd.R_tight2 rfl HO125.out)) hkp (fun k_ hk_ hs_ => Or.elim hs_ (fun e_ => (hk_.2.1.2) e_) (fun e_ => (fun hs_ => (hs_.1.1.2) hk_.1) e_))) (fun k_ hk_ => ⟨hk_.1.2.1.1.1.2, hk_.1.2.1.1.2, hk_.1.2.2⟩)); have n6_ := Aside0.mk (hb); clear BK101; clear HO105; clear HO111; clear BK118; clear HO121; clear HO125; clear HB; clear HO108; clear HO128; clear HO114; clear HO117; have BK101 := n0_; have HO105 := n1_; have HO111 := n2_; have BK118 := n3_; have HO121 := n4_; have HO125 := n5_; have HB := n6_; clear n0_ n1_ n2_ n3_ n4_ n5_ n6_; (try clear hb); (try clear hkp)))
    (try simp only [Act.put, List.setIfInBounds_toArray, List.set_cons_zero, List.set_cons_succ])
    go_cut [42] (fun v42 wc => ∃ (kq : Nat) (x42_16 : Bool), v42 = .bool x42_16 ∧ Aside0 (laws_FnExactShareMoves.j0 kq t109 t119 x42_16 l0_0 l0_1 = some r) ∧ Aside0 (kq ≤ k) ∧ Aside0 (Kd.R Kd.string 9 wc w.heap.size (fun k_ => some k_ ≠ ((.slice Ao34 t119.length co34) : Value).ownBlock) (.slice Ao35 t109.length co35) t109) ∧ Aside0 (Kd.R Kd.string 9 wc w.heap.size (fun k_ => some k_ ≠ ((.slice Ao35 t109.length co35) : Value).ownBlock) (.slice Ao34 t119.length co34) t119) ∧ Aside0 (wc.heap[gb101]? = some (.cells #[(.slice A0_0 l0_0.length c0_0), (.slice A0_1 l0_1.length c0_1)] 26 (0, 0))) ∧ Aside0 (Below w.heap.size w wc))
    case first =>
     have H := HC17.out
     clear HC17
     by_cases c43 : t130 < 0
     ·rw [if_pos c43] at H
      have c43b0 : decide (t130 < 0) = true := decide_eq_true c43
      clear c43
      (first | rw [c43b0] | (simp only [i64_w, i32_w]; rw [c43b0]) | skip)
      have H' := Aside0.mk H
      clear H
      go_wp2
      go_meet
      case rel => exact ⟨_, (true), (pY59), H', ⟨by first | omega | exact Nat.le_refl _⟩, ⟨by (with_reducible repeat (first | apply Kd.R_alloc | apply Kd.R_drewN | apply Kd.R_drew)); exact Kd.R_mono HO111.out (fun _ hk => hk.2.1)⟩, ⟨by (with_reducible repeat (first | apply Kd.R_alloc | apply Kd.R_drewN | apply Kd.R_drew)); exact Kd.R_mono HO121.out (fun _ hk => hk.2.1)⟩, ⟨by (with_reducible repeat (first | refine blk_drewN ?_ _ | refine blk_drew ?_ | refine blk_alloc ?_ _)); exact BK101.out⟩, ⟨pY34⟩⟩
     ·rw [if_neg c43] at H
      have c43b0 : decide (t130 < 0) = false := decide_eq_false c43
      clear c43
      (first | rw [c43b0] | (simp only [i64_w, i32_w]; rw [c43b0]) | skip)
      replace H := Option.bind_eq_some_iff.mp H
      obtain ⟨t131, A440, H⟩ := H
      replace H : (laws_FnExactShareMoves.j0 k t109 t119 (!t131) l0_0 l0_1) = some r := H
      have A44 := Aside0.mk A440
      clear A440
      have H' := Aside0.mk H
      clear H
      go_wp2_with (first | (go_at_call 34; (with_reducible refine (laws_eqStringS.calls k _ _ t119 _ _ t109 t131 _ ?side1 ?side2 ?side3 ?side4 A44.out).mono ?_); (case side1 => exact pC (Kd.R_reads' HO121.out).2.2); (case side2 => exact (Kd.R_reads' HO121.out).2.1); (case side3 => exact pC (Kd.R_reads' HO111.out).2.2); (case side4 => exact (Kd.R_reads' HO111.out).2.1); rintro e w' ⟨rfl, ⟨nd, rfl⟩⟩))
      go_meet
      case rel => exact ⟨_, (!t131), (pY59), H', ⟨by first | omega | exact Nat.le_refl _⟩, ⟨by (with_reducible repeat (first | apply Kd.R_alloc | apply Kd.R_drewN | apply Kd.R_drew)); exact Kd.R_mono HO111.out (fun _ hk => hk.2.1)⟩, ⟨by (with_reducible repeat (first | apply Kd.R_alloc | apply Kd.R_drewN | apply Kd.R_drew)); exact Kd.R_mono HO121.out (fun _ hk => hk.2.1)⟩, ⟨by (with_reducible repeat (first | refine blk_drewN ?_ _ | refine blk_drew ?_ | refine blk_alloc ?_ _)); exact BK101.out⟩, ⟨pY34⟩⟩
    case rest =>
     clear HC17
     try clear c1
     try clear c2
     try clear p2
     try clear c3
     try clear c3b0
     try clear c4
     try clear c10
     try clear c12
     try clear c15
     try clear c21
     try clear c23
     try clear c25
     try clear c30
     try clear c34
     try clear c39
     try clear c42
     try clear c43
     try clear c43b0
     try clear hcz19_0
     try clear hcz19_1
     try clear hcz21_0
     try clear hcz21_1
     try clear hcz26_0
     try clear hcz26_1
     try clear hcz31_0
     try clear hcz31_1
     try clear hcz41_0
     try clear hcz41_1
     try clear hcz5_0
     try clear hcz5_1
     try clear hfz19_0
     try clear hfz19_1
     try clear hfz21_0
     try clear hfz21_1
     try clear hfz26_0
     try clear hfz26_1
     try clear hfz31_0
     try clear hfz31_1
     try clear hfz41_0
     try clear hfz41_1
     try clear hfz5_0
     try clear hfz5_1
     obtain ⟨kq, x42_16, rfl, HA, HJ16, HO_4, HO_6, BK101, HB⟩ := hcut
     cases kq with
     | zero => exact absurd HA.out (by simp [laws_FnExactShareMoves.j0])
     | succ kj16 =>
      have H := HA.out
      clear HA
      simp only [laws_FnExactShareMoves.j0] at H
      by_cases c45 : x42_16 = true
      ·subst c45
       have H1 : (some false) = some r := by rw [if_pos rfl] at H; exact H
       clear H
       have H := H1
       clear H1
       obtain rfl := Option.some.inj H
       go_wp2
       go_ret
       exact ⟨by first | rfl | (simp [errW_none, errW_some] <;> rfl) | (simp [*, errW_none, errW_some] <;> rfl), pY37⟩
      ·replace c45 := Bool.eq_false_iff.mpr c45
       subst c45
       have H1 : ((laws_markStringS.f kj16 t119 1).bind fun bt132 => ((laws_heldStringS.f kj16 bt132.2 1).bind fun t134 => (if t134 < 0 then (some false) else (if t134 = bt132.1 then ((laws_toShareBook.f kj16 l0_0 l0_1).bind fun bt135 => ((impl_ShareMoves.f kj16 bt135.1 bt135.2).bind fun t141 => ((laws_eqStringS.f kj16 t141 t109).bind fun t144 => (if t144 = true then ((laws_heldStringS.f kj16 bt132.2 1).bind fun t145 => (if t145 < 0 then (some false) else (if t145 = bt132.1 then (some true) else (some false)))) else (some false))))) else (some false))))) = some r := by rw [if_neg (show ¬ (false = true) by decide)] at H; exact H
       clear H
       have H := H1
       clear H1
       replace H := Option.bind_eq_some_iff.mp H
       obtain ⟨⟨t132, t133⟩, A460, H⟩ := H
       replace H : ((laws_heldStringS.f kj16 t133 1).bind fun t134 => (if t134 < 0 then (some false) else (if t134 = t132 then ((laws_toShareBook.f kj16 l0_0 l0_1).bind fun bt135 => ((impl_ShareMoves.f kj16 bt135.1 bt135.2).bind fun t141 => ((laws_eqStringS.f kj16 t141 t109).bind fun t144 => (if t144 = true then ((laws_heldStringS.f kj16 t133 1).bind fun t145 => (if t145 < 0 then (some false) else (if t145 = t132 then (some true) else (some false)))) else (some false))))) else (some false)))) = some r := H
       have A46 := Aside0.mk A460
       clear A460
       replace H := Option.bind_eq_some_iff.mp H
       obtain ⟨t134, A470, H⟩ := H
       replace H : (if t134 < 0 then (some false) else (if t134 = t132 then ((laws_toShareBook.f kj16 l0_0 l0_1).bind fun bt135 => ((impl_ShareMoves.f kj16 bt135.1 bt135.2).bind fun t141 => ((laws_eqStringS.f kj16 t141 t109).bind fun t144 => (if t144 = true then ((laws_heldStringS.f kj16 t133 1).bind fun t145 => (if t145 < 0 then (some false) else (if t145 = t132 then (some true) else (some false)))) else (some false))))) else (some false))) = some r := H
       have A47 := Aside0.mk A470
       clear A470
       by_cases c48 : t134 < 0
       ·rw [if_pos c48] at H
        have c48b0 : decide (t134 < 0) = true := decide_eq_true c48
        clear c48
        obtain rfl := Option.some.inj H
        go_wp2_with (first | ((with_reducible refine gate_callee (f := 40) rfl ?_); refine goesL_ (some 45) rfl rfl Try.func40 (by kernel_rfl) rfl #[.slice Ao34 t119.length co34, .int .i64 1] rfl (pY38) ?_; (with_reducible refine (laws_markStringS.calls kj16 (fun k_ => some k_ = (.slice Ao34 t119.length co34 : Value).ownBlock) (.slice Ao34 t119.length co34) t119 1 t132 t133 w _ ?side1 ?side2 A46.out).mono ?_); (case side1 => repeat (first | (with_reducible first | exact HB.out | apply below_alloc | apply pw_below_drewN | apply below_drew1 | refine below_set ?_ GE101.out) | exact HB.out)); (case side2 => exact Kd.R_tight rfl HO_6.out); rintro e w49 ⟨rfl, hy0, hb, hkp⟩; refine ⟨_, rfl, ?_⟩; have n0_ := Aside0.mk (Kd.R_mono (ok' := fun k_ => some k_ ≠ (.slice Ao34 t119.length co34 : Value).ownBlock) (Kd.R_keptB (HO_4.out) hkp (fun k_ hk_ hs_ => (hk_) hs_)) (fun k_ hk_ => hk_.1)); have n1_ := Aside0.mk (Kd.R_reok rfl hy0 (fun k_ e_ => HO_6.out.1 k_ e_)); have n2_ := Aside0.mk (blk_kept (pY40) hkp (fun hs_ => (fun e_ => (Kd.R_ne HO_6.out BK101.out (by decide)) e_) hs_)); have n3_ := Aside0.mk (hb); clear HO_4; clear HO_6; clear BK101; clear HB; have HO_4 := n0_; have HO_6 := n1_; have BK101 := n2_; have HB := n3_; clear n0_ n1_ n2_ n3_; (try clear hb); (try clear hkp); (try clear hy0)) | ((with_reducible refine gate_callee (f := 41) rfl ?_); refine goesL_ (some 48) rfl rfl Try.func41 (by kernel_rfl) rfl #[.slice Ao34 t133.length co34, .int .i64 1] rfl (pY26) ?_; (with_reducible refine (laws_heldStringS.calls kj16 _ _ t133 1 t134 _ ?side1 ?side2 A47.out).mono ?_); (case side1 => exact pC (Kd.R_reads' HO_6.out).2.2); (case side2 => rw [show t133.length = t119.length from (Kd.R_reads' HO_6.out).1.symm]; exact (Kd.R_reads' HO_6.out).2.1); rintro e w50 ⟨rfl, hb⟩; refine ⟨_, rfl, ?_⟩; have n0_ := Aside0.mk (Kd.R_below (pY53) hb); have n1_ := Aside0.mk (Kd.R_below (pY54) hb); have n2_ := Aside0.mk (blk_below (g := gb101) (o := .cells #[.slice A0_0 l0_0.length c0_0, .slice A0_1 l0_1.length c0_1] 26 (0, 0)) (pY40) hb); have n3_ := Aside0.mk (below_step (pY37) hb); clear HO_4; clear HO_6; clear BK101; clear HB; have HO_4 := n0_; have HO_6 := n1_; have BK101 := n2_; have HB := n3_; clear n0_ n1_ n2_ n3_; (try clear hb); (try clear hb2); (try clear hk); (try clear hi)))
        go_ret
        exact ⟨by first | rfl | (simp [errW_none, errW_some] <;> rfl) | (simp [*, errW_none, errW_some] <;> rfl), pY37⟩
       ·rw [if_neg c48] at H
        have c48b0 : decide (t134 < 0) = false := decide_eq_false c48
        clear c48
        by_cases c51 : t134 = t132
        ·rw [if_pos c51] at H
         have c51b0 : (t134 == t132) = true := beq_iff_eq.mpr c51
         have c51b1 : (t134 != t132) = false := bne_eq_false_iff_eq.mpr c51
         clear c51
         replace H := Option.bind_eq_some_iff.mp H
         obtain ⟨⟨t135, t138⟩, A520, H⟩ := H
         replace H : ((impl_ShareMoves.f kj16 t135 t138).bind fun t141 => ((laws_eqStringS.f kj16 t141 t109).bind fun t144 => (if t144 = true then ((laws_heldStringS.f kj16 t133 1).bind fun t145 => (if t145 < 0 then (some false) else (if t145 = t132 then (some true) else (some false)))) else (some false)))) = some r := H
         have A52 := Aside0.mk A520
         clear A520
         replace H := Option.bind_eq_some_iff.mp H
         obtain ⟨t141, A530, H⟩ := H
         replace H : ((laws_eqStringS.f kj16 t141 t109).bind fun t144 => (if t144 = true then ((laws_heldStringS.f kj16 t133 1).bind fun t145 => (if t145 < 0 then (some false) else (if t145 = t132 then (some true) else (some false)))) else (some false))) = some r := H
         have A53 := Aside0.mk A530
         clear A530
         replace H := Option.bind_eq_some_iff.mp H
         obtain ⟨t144, A540, H⟩ := H
         replace H : (if t144 = true then ((laws_heldStringS.f kj16 t133 1).bind fun t145 => (if t145 < 0 then (some false) else (if t145 = t132 then (some true) else (some false)))) else (some false)) = some r := H
         have A54 := Aside0.mk A540
         clear A540
         by_cases c55 : t144 = true
         ·subst c55
          have H1 : ((laws_heldStringS.f kj16 t133 1).bind fun t145 => (if t145 < 0 then (some false) else (if t145 = t132 then (some true) else (some false)))) = some r := by rw [if_pos rfl] at H; exact H
          clear H
          have H := H1
          clear H1
          replace H := Option.bind_eq_some_iff.mp H
          obtain ⟨t145, A560, H⟩ := H
          replace H : (if t145 < 0 then (some false) else (if t145 = t132 then (some true) else (some false))) = some r := H
          have A56 := Aside0.mk A560
          clear A560
          by_cases c57 : t145 < 0
          ·rw [if_pos c57] at H
           have c57b0 : decide (t145 < 0) = true := decide_eq_true c57
           clear c57
           obtain rfl := Option.some.inj H
           go_wp2_with (first | ((with_reducible refine gate_callee (f := 40) rfl ?_); refine goesL_ (some 45) rfl rfl Try.func40 (by kernel_rfl) rfl #[.slice Ao34 t119.length co34, .int .i64 1] rfl (pY38) ?_; (with_reducible refine (laws_markStringS.calls kj16 (fun k_ => some k_ = (.slice Ao34 t119.length co34 : Value).ownBlock) (.slice Ao34 t119.length co34) t119 1 t132 t133 w _ ?side1 ?side2 A46.out).mono ?_); (case side1 => repeat (first | (with_reducible first | exact HB.out | apply below_alloc | apply pw_below_drewN | apply below_drew1 | refine below_set ?_ GE101.out) | exact HB.out)); (case side2 => exact Kd.R_tight rfl HO_6.out); rintro e w58 ⟨rfl, hy0, hb, hkp⟩; refine ⟨_, rfl, ?_⟩; have n0_ := Aside0.mk (Kd.R_mono (ok' := fun k_ => some k_ ≠ (.slice Ao34 t119.length co34 : Value).ownBlock) (Kd.R_keptB (HO_4.out) hkp (fun k_ hk_ hs_ => (hk_) hs_)) (fun k_ hk_ => hk_.1)); have n1_ := Aside0.mk (Kd.R_reok rfl hy0 (fun k_ e_ => HO_6.out.1 k_ e_)); have n2_ := Aside0.mk (blk_kept (pY40) hkp (fun hs_ => (fun e_ => (Kd.R_ne HO_6.out BK101.out (by decide)) e_) hs_)); have n3_ := Aside0.mk (hb); clear HO_4; clear HO_6; clear BK101; clear HB; have HO_4 := n0_; have HO_6 := n1_; have BK101 := n2_; have HB := n3_; clear n0_ n1_ n2_ n3_; (try clear hb); (try clear hkp); (try clear hy0)) | ((with_reducible refine gate_callee (f := 41) rfl ?_); refine goesL_ (some 48) rfl rfl Try.func41 (by kernel_rfl) rfl #[.slice Ao34 t133.length co34, .int .i64 1] rfl (pY26) ?_; (with_reducible refine (laws_heldStringS.calls kj16 _ _ t133 1 t134 _ ?side1 ?side2 A47.out).mono ?_); (case side1 => exact pC (Kd.R_reads' HO_6.out).2.2); (case side2 => rw [show t133.length = t119.length from (Kd.R_reads' HO_6.out).1.symm]; exact (Kd.R_reads' HO_6.out).2.1); rintro e w59 ⟨rfl, hb⟩; refine ⟨_, rfl, ?_⟩; have n0_ := Aside0.mk (Kd.R_below (pY53) hb); have n1_ := Aside0.mk (Kd.R_below (pY54) hb); have n2_ := Aside0.mk (blk_below (g := gb101) (o := .cells #[.slice A0_0 l0_0.length c0_0, .slice A0_1 l0_1.length c0_1] 26 (0, 0)) (pY40) hb); have n3_ := Aside0.mk (below_step (pY37) hb); clear HO_4; clear HO_6; clear BK101; clear HB; have HO_4 := n0_; have HO_6 := n1_; have BK101 := n2_; have HB := n3_; clear n0_ n1_ n2_ n3_; (try clear hb); (try clear hb2); (try clear hk); (try clear hi); have hcz60_0 : w59.cell? ⟨gb101, 0, none⟩ = some (.slice A0_0 l0_0.length c0_0) := (blk_cell BK101.out 0).trans rfl; have hcz60_1 : w59.cell? ⟨gb101, 1, none⟩ = some (.slice A0_1 l0_1.length c0_1) := (blk_cell BK101.out 1).trans rfl; have hfz60_0 := blk_frozen BK101.out 0; have hfz60_1 := blk_frozen BK101.out 1) | ((with_reducible refine gate_callee (f := 23) rfl ?_); refine goesL_ (some 55) rfl rfl Try.func23 (by kernel_rfl) rfl #[.agg #[.slice A0_0 l0_0.length c0_0, .slice A0_1 l0_1.length c0_1]] rfl (pY38) ?_; (with_reducible refine (laws_toShareBook.calls kj16 _ _ l0_0 _ _ l0_1 t135 t138 _ ?side1 ?side2 ?side3 ?side4 A52.out).mono ?_); (case side1 => exact pC (Kd.C_below HR0_0.out HB.out)); (case side2 => exact HC0_0.out); (case side3 => exact pC (Kd.C_below HR0_1.out HB.out)); (case side4 => exact HC0_1.out); rintro e w61 ⟨v136, v139, rfl, ho0, ho1, hb⟩; refine ⟨_, rfl, ?_⟩; have n0_ := Aside0.mk (Kd.R_elder' (pY53) (Kd.R_base ho0) hb); have n1_ := Aside0.mk (Kd.R_elder' (pY54) (Kd.R_base ho0) hb); have n2_ := Aside0.mk (Kd.R_lower (Kd.R_new' (Kd.R_new' ho0 (Kd.R_lt (pY53))) (Kd.R_lt (pY54))) (below_size (pY37))); have n3_ := Aside0.mk (Kd.S_lower (Kd.S_new' (Kd.S_new' ho1 (Kd.R_lt (pY53))) (Kd.R_lt (pY54))) (below_size (pY37))); have n4_ := Aside0.mk (blk_below (g := gb101) (o := .cells #[.slice A0_0 l0_0.length c0_0, .slice A0_1 l0_1.length c0_1] 26 (0, 0)) (pY40) hb); have n5_ := Aside0.mk (below_step (pY37) hb); clear HO_4; clear HO_6; clear BK101; clear HB; have HO_4 := n0_; have HO_6 := n1_; have HO137 := n2_; have HO140 := n3_; have BK101 := n4_; have HB := n5_; clear n0_ n1_ n2_ n3_ n4_ n5_; (try clear hb); (try clear hb2); (try clear hk); (try clear hi); (try clear ho0); (try clear ho1); obtain ⟨Ao62, co62, eo62⟩ := Kd.R_slice HO137.out; subst eo62; obtain ⟨Ao63, co63, eo63⟩ := Kd.S_slice HO140.out; subst eo63) | ((with_reducible refine gate_callee (f := 43) rfl ?_); refine goesL_ (some 56) rfl rfl Try.func43 (by kernel_rfl) rfl #[.agg #[.slice Ao62 t135.length co62, .slice Ao63 t138.length co63]] rfl (pY38) ?_; (with_reducible refine (impl_ShareMoves.calls kj16 _ _ t135 _ _ t138 t141 _ ?side1 ?side2 ?side3 ?side4 A53.out).mono ?_); (case side1 => exact pC (Kd.R_reads' HO137.out).2.2); (case side2 => exact (Kd.R_reads' HO137.out).2.1); (case side3 => exact pC (Kd.S_reads' HO140.out).2.2); (case side4 => exact (Kd.S_reads' HO140.out).2.1); rintro e w64 ⟨v142, rfl, ho0, hb⟩; refine ⟨_, rfl, ?_⟩; have n0_ := Aside0.mk (Kd.R_elder' (pY53) (Kd.R_base ho0) hb); have n1_ := Aside0.mk (Kd.R_elder' (pY54) (Kd.R_base ho0) hb); have n2_ := Aside0.mk (Kd.R_elder' (pY50) (Kd.R_base ho0) hb); have n3_ := Aside0.mk (Kd.S_elder' (pY51) (Kd.R_base ho0) hb); have n4_ := Aside0.mk (Kd.R_lower (Kd.R_new' (Kd.R_new' (Kd.R_new' ho0 (Kd.R_lt (pY53))) (Kd.R_lt (pY54))) (Kd.R_lt (pY50))) (below_size (pY37))); have n5_ := Aside0.mk (blk_below (g := gb101) (o := .cells #[.slice A0_0 l0_0.length c0_0, .slice A0_1 l0_1.length c0_1] 26 (0, 0)) (pY40) hb); have n6_ := Aside0.mk (below_step (pY37) hb); clear HO_4; clear HO_6; clear HO137; clear HO140; clear BK101; clear HB; have HO_4 := n0_; have HO_6 := n1_; have HO137 := n2_; have HO140 := n3_; have HO143 := n4_; have BK101 := n5_; have HB := n6_; clear n0_ n1_ n2_ n3_ n4_ n5_ n6_; (try clear hb); (try clear hb2); (try clear hk); (try clear hi); (try clear ho0); obtain ⟨Ao65, co65, eo65⟩ := Kd.R_slice HO143.out; subst eo65) | ((with_reducible refine gate_callee (f := 34) rfl ?_); refine goesL_ (some 59) rfl rfl Try.func34 (by kernel_rfl) rfl #[.slice Ao65 t141.length co65, .slice Ao35 t109.length co35] rfl (pY38) ?_; (with_reducible refine (laws_eqStringS.calls kj16 _ _ t141 _ _ t109 true _ ?side1 ?side2 ?side3 ?side4 A54.out).mono ?_); (case side1 => exact pC (Kd.R_reads' HO143.out).2.2); (case side2 => exact (Kd.R_reads' HO143.out).2.1); (case side3 => exact pC (Kd.R_reads' HO_4.out).2.2); (case side4 => exact (Kd.R_reads' HO_4.out).2.1); rintro e w' ⟨rfl, ⟨nd, rfl⟩⟩; refine ⟨_, rfl, ?_⟩) | ((with_reducible refine gate_callee (f := 41) rfl ?_); refine goesL_ (some 63) rfl rfl Try.func41 (by kernel_rfl) rfl #[.slice Ao34 t133.length co34, .int .i64 1] rfl (pY26) ?_; (with_reducible refine (laws_heldStringS.calls kj16 _ _ t133 1 t145 _ ?side1 ?side2 A56.out).mono ?_); (case side1 => exact pC (Kd.R_reads' HO_6.out).2.2); (case side2 => rw [show t133.length = t119.length from (Kd.R_reads' HO_6.out).1.symm]; exact (Kd.R_reads' HO_6.out).2.1); rintro e w66 ⟨rfl, hb⟩; refine ⟨_, rfl, ?_⟩; have n0_ := Aside0.mk (Kd.R_below (pY53) hb); have n1_ := Aside0.mk (Kd.R_below (pY54) hb); have n2_ := Aside0.mk (Kd.R_below (pY50) hb); have n3_ := Aside0.mk (Kd.S_below (pY51) hb); have n4_ := Aside0.mk (Kd.R_below (by (with_reducible repeat (first | apply Kd.R_alloc | apply Kd.R_drewN | apply Kd.R_drew)); exact HO143.out) hb); have n5_ := Aside0.mk (blk_below (g := gb101) (o := .cells #[.slice A0_0 l0_0.length c0_0, .slice A0_1 l0_1.length c0_1] 26 (0, 0)) (pY40) hb); have n6_ := Aside0.mk (below_step (pY37) hb); clear HO_4; clear HO_6; clear HO137; clear HO140; clear HO143; clear BK101; clear HB; have HO_4 := n0_; have HO_6 := n1_; have HO137 := n2_; have HO140 := n3_; have HO143 := n4_; have BK101 := n5_; have HB := n6_; clear n0_ n1_ n2_ n3_ n4_ n5_ n6_; (try clear hb); (try clear hb2); (try clear hk); (try clear hi)))
           go_ret
           exact ⟨by first | rfl | (simp [errW_none, errW_some] <;> rfl) | (simp [*, errW_none, errW_some] <;> rfl), pY37⟩
          ·rw [if_neg c57] at H
           have c57b0 : decide (t145 < 0) = false := decide_eq_false c57
           clear c57
           by_cases c67 : t145 = t132
           ·rw [if_pos c67] at H
            have c67b0 : (t145 == t132) = true := beq_iff_eq.mpr c67
            have c67b1 : (t145 != t132) = false := bne_eq_false_iff_eq.mpr c67
            clear c67
            obtain rfl := Option.some.inj H
            go_wp2_with (first | ((with_reducible refine gate_callee (f := 40) rfl ?_); refine goesL_ (some 45) rfl rfl Try.func40 (by kernel_rfl) rfl #[.slice Ao34 t119.length co34, .int .i64 1] rfl (pY38) ?_; (with_reducible refine (laws_markStringS.calls kj16 (fun k_ => some k_ = (.slice Ao34 t119.length co34 : Value).ownBlock) (.slice Ao34 t119.length co34) t119 1 t132 t133 w _ ?side1 ?side2 A46.out).mono ?_); (case side1 => repeat (first | (with_reducible first | exact HB.out | apply below_alloc | apply pw_below_drewN | apply below_drew1 | refine below_set ?_ GE101.out) | exact HB.out)); (case side2 => exact Kd.R_tight rfl HO_6.out); rintro e w68 ⟨rfl, hy0, hb, hkp⟩; refine ⟨_, rfl, ?_⟩; have n0_ := Aside0.mk (Kd.R_mono (ok' := fun k_ => some k_ ≠ (.slice Ao34 t119.length co34 : Value).ownBlock) (Kd.R_keptB (HO_4.out) hkp (fun k_ hk_ hs_ => (hk_) hs_)) (fun k_ hk_ => hk_.1)); have n1_ := Aside0.mk (Kd.R_reok rfl hy0 (fun k_ e_ => HO_6.out.1 k_ e_)); have n2_ := Aside0.mk (blk_kept (pY40) hkp (fun hs_ => (fun e_ => (Kd.R_ne HO_6.out BK101.out (by decide)) e_) hs_)); have n3_ := Aside0.mk (hb); clear HO_4; clear HO_6; clear BK101; clear HB; have HO_4 := n0_; have HO_6 := n1_; have BK101 := n2_; have HB := n3_; clear n0_ n1_ n2_ n3_; (try clear hb); (try clear hkp); (try clear hy0)) | ((with_reducible refine gate_callee (f := 41) rfl ?_); refine goesL_ (some 48) rfl rfl Try.func41 (by kernel_rfl) rfl #[.slice Ao34 t133.length co34, .int .i64 1] rfl (pY26) ?_; (with_reducible refine (laws_heldStringS.calls kj16 _ _ t133 1 t134 _ ?side1 ?side2 A47.out).mono ?_); (case side1 => exact pC (Kd.R_reads' HO_6.out).2.2); (case side2 => rw [show t133.length = t119.length from (Kd.R_reads' HO_6.out).1.symm]; exact (Kd.R_reads' HO_6.out).2.1); rintro e w69 ⟨rfl, hb⟩; refine ⟨_, rfl, ?_⟩; have n0_ := Aside0.mk (Kd.R_below (pY53) hb); have n1_ := Aside0.mk (Kd.R_below (pY54) hb); have n2_ := Aside0.mk (blk_below (g := gb101) (o := .cells #[.slice A0_0 l0_0.length c0_0, .slice A0_1 l0_1.length c0_1] 26 (0, 0)) (pY40) hb); have n3_ := Aside0.mk (below_step (pY37) hb); clear HO_4; clear HO_6; clear BK101; clear HB; have HO_4 := n0_; have HO_6 := n1_; have BK101 := n2_; have HB := n3_; clear n0_ n1_ n2_ n3_; (try clear hb); (try clear hb2); (try clear hk); (try clear hi); have hcz70_0 : w69.cell? ⟨gb101, 0, none⟩ = some (.slice A0_0 l0_0.length c0_0) := (blk_cell BK101.out 0).trans rfl; have hcz70_1 : w69.cell? ⟨gb101, 1, none⟩ = some (.slice A0_1 l0_1.length c0_1) := (blk_cell BK101.out 1).trans rfl; have hfz70_0 := blk_frozen BK101.out 0; have hfz70_1 := blk_frozen BK101.out 1) | ((with_reducible refine gate_callee (f := 23) rfl ?_); refine goesL_ (some 55) rfl rfl Try.func23 (by kernel_rfl) rfl #[.agg #[.slice A0_0 l0_0.length c0_0, .slice A0_1 l0_1.length c0_1]] rfl (pY38) ?_; (with_reducible refine (laws_toShareBook.calls kj16 _ _ l0_0 _ _ l0_1 t135 t138 _ ?side1 ?side2 ?side3 ?side4 A52.out).mono ?_); (case side1 => exact pC (Kd.C_below HR0_0.out HB.out)); (case side2 => exact HC0_0.out); (case side3 => exact pC (Kd.C_below HR0_1.out HB.out)); (case side4 => exact HC0_1.out); rintro e w71 ⟨v136, v139, rfl, ho0, ho1, hb⟩; refine ⟨_, rfl, ?_⟩; have n0_ := Aside0.mk (Kd.R_elder' (pY53) (Kd.R_base ho0) hb); have n1_ := Aside0.mk (Kd.R_elder' (pY54) (Kd.R_base ho0) hb); have n2_ := Aside0.mk (Kd.R_lower (Kd.R_new' (Kd.R_new' ho0 (Kd.R_lt (pY53))) (Kd.R_lt (pY54))) (below_size (pY37))); have n3_ := Aside0.mk (Kd.S_lower (Kd.S_new' (Kd.S_new' ho1 (Kd.R_lt (pY53))) (Kd.R_lt (pY54))) (below_size (pY37))); have n4_ := Aside0.mk (blk_below (g := gb101) (o := .cells #[.slice A0_0 l0_0.length c0_0, .slice A0_1 l0_1.length c0_1] 26 (0, 0)) (pY40) hb); have n5_ := Aside0.mk (below_step (pY37) hb); clear HO_4; clear HO_6; clear BK101; clear HB; have HO_4 := n0_; have HO_6 := n1_; have HO137 := n2_; have HO140 := n3_; have BK101 := n4_; have HB := n5_; clear n0_ n1_ n2_ n3_ n4_ n5_; (try clear hb); (try clear hb2); (try clear hk); (try clear hi); (try clear ho0); (try clear ho1); obtain ⟨Ao72, co72, eo72⟩ := Kd.R_slice HO137.out; subst eo72; obtain ⟨Ao73, co73, eo73⟩ := Kd.S_slice HO140.out; subst eo73) | ((with_reducible refine gate_callee (f := 43) rfl ?_); refine goesL_ (some 56) rfl rfl Try.func43 (by kernel_rfl) rfl #[.agg #[.slice Ao72 t135.length co72, .slice Ao73 t138.length co73]] rfl (pY38) ?_; (with_reducible refine (impl_ShareMoves.calls kj16 _ _ t135 _ _ t138 t141 _ ?side1 ?side2 ?side3 ?side4 A53.out).mono ?_); (case side1 => exact pC (Kd.R_reads' HO137.out).2.2); (case side2 => exact (Kd.R_reads' HO137.out).2.1); (case side3 => exact pC (Kd.S_reads' HO140.out).2.2); (case side4 => exact (Kd.S_reads' HO140.out).2.1); rintro e w74 ⟨v142, rfl, ho0, hb⟩; refine ⟨_, rfl, ?_⟩; have n0_ := Aside0.mk (Kd.R_elder' (pY53) (Kd.R_base ho0) hb); have n1_ := Aside0.mk (Kd.R_elder' (pY54) (Kd.R_base ho0) hb); have n2_ := Aside0.mk (Kd.R_elder' (pY50) (Kd.R_base ho0) hb); have n3_ := Aside0.mk (Kd.S_elder' (pY51) (Kd.R_base ho0) hb); have n4_ := Aside0.mk (Kd.R_lower (Kd.R_new' (Kd.R_new' (Kd.R_new' ho0 (Kd.R_lt (pY53))) (Kd.R_lt (pY54))) (Kd.R_lt (pY50))) (below_size (pY37))); have n5_ := Aside0.mk (blk_below (g := gb101) (o := .cells #[.slice A0_0 l0_0.length c0_0, .slice A0_1 l0_1.length c0_1] 26 (0, 0)) (pY40) hb); have n6_ := Aside0.mk (below_step (pY37) hb); clear HO_4; clear HO_6; clear HO137; clear HO140; clear BK101; clear HB; have HO_4 := n0_; have HO_6 := n1_; have HO137 := n2_; have HO140 := n3_; have HO143 := n4_; have BK101 := n5_; have HB := n6_; clear n0_ n1_ n2_ n3_ n4_ n5_ n6_; (try clear hb); (try clear hb2); (try clear hk); (try clear hi); (try clear ho0); obtain ⟨Ao75, co75, eo75⟩ := Kd.R_slice HO143.out; subst eo75) | ((with_reducible refine gate_callee (f := 34) rfl ?_); refine goesL_ (some 59) rfl rfl Try.func34 (by kernel_rfl) rfl #[.slice Ao75 t141.length co75, .slice Ao35 t109.length co35] rfl (pY38) ?_; (with_reducible refine (laws_eqStringS.calls kj16 _ _ t141 _ _ t109 true _ ?side1 ?side2 ?side3 ?side4 A54.out).mono ?_); (case side1 => exact pC (Kd.R_reads' HO143.out).2.2); (case side2 => exact (Kd.R_reads' HO143.out).2.1); (case side3 => exact pC (Kd.R_reads' HO_4.out).2.2); (case side4 => exact (Kd.R_reads' HO_4.out).2.1); rintro e w' ⟨rfl, ⟨nd, rfl⟩⟩; refine ⟨_, rfl, ?_⟩) | ((with_reducible refine gate_callee (f := 41) rfl ?_); refine goesL_ (some 63) rfl rfl Try.func41 (by kernel_rfl) rfl #[.slice Ao34 t133.length co34, .int .i64 1] rfl (pY26) ?_; (with_reducible refine (laws_heldStringS.calls kj16 _ _ t133 1 t145 _ ?side1 ?side2 A56.out).mono ?_); (case side1 => exact pC (Kd.R_reads' HO_6.out).2.2); (case side2 => rw [show t133.length = t119.length from (Kd.R_reads' HO_6.out).1.symm]; exact (Kd.R_reads' HO_6.out).2.1); rintro e w76 ⟨rfl, hb⟩; refine ⟨_, rfl, ?_⟩; have n0_ := Aside0.mk (Kd.R_below (pY53) hb); have n1_ := Aside0.mk (Kd.R_below (pY54) hb); have n2_ := Aside0.mk (Kd.R_below (pY50) hb); have n3_ := Aside0.mk (Kd.S_below (pY51) hb); have n4_ := Aside0.mk (Kd.R_below (by (with_reducible repeat (first | apply Kd.R_alloc | apply Kd.R_drewN | apply Kd.R_drew)); exact HO143.out) hb); have n5_ := Aside0.mk (blk_below (g := gb101) (o := .cells #[.slice A0_0 l0_0.length c0_0, .slice A0_1 l0_1.length c0_1] 26 (0, 0)) (pY40) hb); have n6_ := Aside0.mk (below_step (pY37) hb); clear HO_4; clear HO_6; clear HO137; clear HO140; clear HO143; clear BK101; clear HB; have HO_4 := n0_; have HO_6 := n1_; have HO137 := n2_; have HO140 := n3_; have HO143 := n4_; have BK101 := n5_; have HB := n6_; clear n0_ n1_ n2_ n3_ n4_ n5_ n6_; (try clear hb); (try clear hb2); (try clear hk); (try clear hi)))
            go_ret
            exact ⟨by first | rfl | (simp [errW_none, errW_some] <;> rfl) | (simp [*, errW_none, errW_some] <;> rfl), pY37⟩
           ·rw [if_neg c67] at H
            have c67b0 : (t145 == t132) = false := beq_eq_false_iff_ne.mpr c67
            have c67b1 : (t145 != t132) = true := bne_iff_ne.mpr c67
            obtain rfl := Option.some.inj H
            go_wp2_with (first | ((with_reducible refine gate_callee (f := 40) rfl ?_); refine goesL_ (some 45) rfl rfl Try.func40 (by kernel_rfl) rfl #[.slice Ao34 t119.length co34, .int .i64 1] rfl (pY38) ?_; (with_reducible refine (laws_markStringS.calls kj16 (fun k_ => some k_ = (.slice Ao34 t119.length co34 : Value).ownBlock) (.slice Ao34 t119.length co34) t119 1 t132 t133 w _ ?side1 ?side2 A46.out).mono ?_); (case side1 => repeat (first | (with_reducible first | exact HB.out | apply below_alloc | apply pw_below_drewN | apply below_drew1 | refine below_set ?_ GE101.out) | exact HB.out)); (case side2 => exact Kd.R_tight rfl HO_6.out); rintro e w77 ⟨rfl, hy0, hb, hkp⟩; refine ⟨_, rfl, ?_⟩; have n0_ := Aside0.mk (Kd.R_mono (ok' := fun k_ => some k_ ≠ (.slice Ao34 t119.length co34 : Value).ownBlock) (Kd.R_keptB (HO_4.out) hkp (fun k_ hk_ hs_ => (hk_) hs_)) (fun k_ hk_ => hk_.1)); have n1_ := Aside0.mk (Kd.R_reok rfl hy0 (fun k_ e_ => HO_6.out.1 k_ e_)); have n2_ := Aside0.mk (blk_kept (pY40) hkp (fun hs_ => (fun e_ => (Kd.R_ne HO_6.out BK101.out (by decide)) e_) hs_)); have n3_ := Aside0.mk (hb); clear HO_4; clear HO_6; clear BK101; clear HB; have HO_4 := n0_; have HO_6 := n1_; have BK101 := n2_; have HB := n3_; clear n0_ n1_ n2_ n3_; (try clear hb); (try clear hkp); (try clear hy0)) | ((with_reducible refine gate_callee (f := 41) rfl ?_); refine goesL_ (some 48) rfl rfl Try.func41 (by kernel_rfl) rfl #[.slice Ao34 t133.length co34, .int .i64 1] rfl (pY26) ?_; (with_reducible refine (laws_heldStringS.calls kj16 _ _ t133 1 t134 _ ?side1 ?side2 A47.out).mono ?_); (case side1 => exact pC (Kd.R_reads' HO_6.out).2.2); (case side2 => rw [show t133.length = t119.length from (Kd.R_reads' HO_6.out).1.symm]; exact (Kd.R_reads' HO_6.out).2.1); rintro e w78 ⟨rfl, hb⟩; refine ⟨_, rfl, ?_⟩; have n0_ := Aside0.mk (Kd.R_below (pY53) hb); have n1_ := Aside0.mk (Kd.R_below (pY54) hb); have n2_ := Aside0.mk (blk_below (g := gb101) (o := .cells #[.slice A0_0 l0_0.length c0_0, .slice A0_1 l0_1.length c0_1] 26 (0, 0)) (pY40) hb); have n3_ := Aside0.mk (below_step (pY37) hb); clear HO_4; clear HO_6; clear BK101; clear HB; have HO_4 := n0_; have HO_6 := n1_; have BK101 := n2_; have HB := n3_; clear n0_ n1_ n2_ n3_; (try clear hb); (try clear hb2); (try clear hk); (try clear hi); have hcz79_0 : w78.cell? ⟨gb101, 0, none⟩ = some (.slice A0_0 l0_0.length c0_0) := (blk_cell BK101.out 0).trans rfl; have hcz79_1 : w78.cell? ⟨gb101, 1, none⟩ = some (.slice A0_1 l0_1.length c0_1) := (blk_cell BK101.out 1).trans rfl; have hfz79_0 := blk_frozen BK101.out 0; have hfz79_1 := blk_frozen BK101.out 1) | ((with_reducible refine gate_callee (f := 23) rfl ?_); refine goesL_ (some 55) rfl rfl Try.func23 (by kernel_rfl) rfl #[.agg #[.slice A0_0 l0_0.length c0_0, .slice A0_1 l0_1.length c0_1]] rfl (pY38) ?_; (with_reducible refine (laws_toShareBook.calls kj16 _ _ l0_0 _ _ l0_1 t135 t138 _ ?side1 ?side2 ?side3 ?side4 A52.out).mono ?_); (case side1 => exact pC (Kd.C_below HR0_0.out HB.out)); (case side2 => exact HC0_0.out); (case side3 => exact pC (Kd.C_below HR0_1.out HB.out)); (case side4 => exact HC0_1.out); rintro e w80 ⟨v136, v139, rfl, ho0, ho1, hb⟩; refine ⟨_, rfl, ?_⟩; have n0_ := Aside0.mk (Kd.R_elder' (pY53) (Kd.R_base ho0) hb); have n1_ := Aside0.mk (Kd.R_elder' (pY54) (Kd.R_base ho0) hb); have n2_ := Aside0.mk (Kd.R_lower (Kd.R_new' (Kd.R_new' ho0 (Kd.R_lt (pY53))) (Kd.R_lt (pY54))) (below_size (pY37))); have n3_ := Aside0.mk (Kd.S_lower (Kd.S_new' (Kd.S_new' ho1 (Kd.R_lt (pY53))) (Kd.R_lt (pY54))) (below_size (pY37))); have n4_ := Aside0.mk (blk_below (g := gb101) (o := .cells #[.slice A0_0 l0_0.length c0_0, .slice A0_1 l0_1.length c0_1] 26 (0, 0)) (pY40) hb); have n5_ := Aside0.mk (below_step (pY37) hb); clear HO_4; clear HO_6; clear BK101; clear HB; have HO_4 := n0_; have HO_6 := n1_; have HO137 := n2_; have HO140 := n3_; have BK101 := n4_; have HB := n5_; clear n0_ n1_ n2_ n3_ n4_ n5_; (try clear hb); (try clear hb2); (try clear hk); (try clear hi); (try clear ho0); (try clear ho1); obtain ⟨Ao81, co81, eo81⟩ := Kd.R_slice HO137.out; subst eo81; obtain ⟨Ao82, co82, eo82⟩ := Kd.S_slice HO140.out; subst eo82) | ((with_reducible refine gate_callee (f := 43) rfl ?_); refine goesL_ (some 56) rfl rfl Try.func43 (by kernel_rfl) rfl #[.agg #[.slice Ao81 t135.length co81, .slice Ao82 t138.length co82]] rfl (pY38) ?_; (with_reducible refine (impl_ShareMoves.calls kj16 _ _ t135 _ _ t138 t141 _ ?side1 ?side2 ?side3 ?side4 A53.out).mono ?_); (case side1 => exact pC (Kd.R_reads' HO137.out).2.2); (case side2 => exact (Kd.R_reads' HO137.out).2.1); (case side3 => exact pC (Kd.S_reads' HO140.out).2.2); (case side4 => exact (Kd.S_reads' HO140.out).2.1); rintro e w83 ⟨v142, rfl, ho0, hb⟩; refine ⟨_, rfl, ?_⟩; have n0_ := Aside0.mk (Kd.R_elder' (pY53) (Kd.R_base ho0) hb); have n1_ := Aside0.mk (Kd.R_elder' (pY54) (Kd.R_base ho0) hb); have n2_ := Aside0.mk (Kd.R_elder' (pY50) (Kd.R_base ho0) hb); have n3_ := Aside0.mk (Kd.S_elder' (pY51) (Kd.R_base ho0) hb); have n4_ := Aside0.mk (Kd.R_lower (Kd.R_new' (Kd.R_new' (Kd.R_new' ho0 (Kd.R_lt (pY53))) (Kd.R_lt (pY54))) (Kd.R_lt (pY50))) (below_size (pY37))); have n5_ := Aside0.mk (blk_below (g := gb101) (o := .cells #[.slice A0_0 l0_0.length c0_0, .slice A0_1 l0_1.length c0_1] 26 (0, 0)) (pY40) hb); have n6_ := Aside0.mk (below_step (pY37) hb); clear HO_4; clear HO_6; clear HO137; clear HO140; clear BK101; clear HB; have HO_4 := n0_; have HO_6 := n1_; have HO137 := n2_; have HO140 := n3_; have HO143 := n4_; have BK101 := n5_; have HB := n6_; clear n0_ n1_ n2_ n3_ n4_ n5_ n6_; (try clear hb); (try clear hb2); (try clear hk); (try clear hi); (try clear ho0); obtain ⟨Ao84, co84, eo84⟩ := Kd.R_slice HO143.out; subst eo84) | ((with_reducible refine gate_callee (f := 34) rfl ?_); refine goesL_ (some 59) rfl rfl Try.func34 (by kernel_rfl) rfl #[.slice Ao84 t141.length co84, .slice Ao35 t109.length co35] rfl (pY38) ?_; (with_reducible refine (laws_eqStringS.calls kj16 _ _ t141 _ _ t109 true _ ?side1 ?side2 ?side3 ?side4 A54.out).mono ?_); (case side1 => exact pC (Kd.R_reads' HO143.out).2.2); (case side2 => exact (Kd.R_reads' HO143.out).2.1); (case side3 => exact pC (Kd.R_reads' HO_4.out).2.2); (case side4 => exact (Kd.R_reads' HO_4.out).2.1); rintro e w' ⟨rfl, ⟨nd, rfl⟩⟩; refine ⟨_, rfl, ?_⟩) | ((with_reducible refine gate_callee (f := 41) rfl ?_); refine goesL_ (some 63) rfl rfl Try.func41 (by kernel_rfl) rfl #[.slice Ao34 t133.length co34, .int .i64 1] rfl (pY26) ?_; (with_reducible refine (laws_heldStringS.calls kj16 _ _ t133 1 t145 _ ?side1 ?side2 A56.out).mono ?_); (case side1 => exact pC (Kd.R_reads' HO_6.out).2.2); (case side2 => rw [show t133.length = t119.length from (Kd.R_reads' HO_6.out).1.symm]; exact (Kd.R_reads' HO_6.out).2.1); rintro e w85 ⟨rfl, hb⟩; refine ⟨_, rfl, ?_⟩; have n0_ := Aside0.mk (Kd.R_below (pY53) hb); have n1_ := Aside0.mk (Kd.R_below (pY54) hb); have n2_ := Aside0.mk (Kd.R_below (pY50) hb); have n3_ := Aside0.mk (Kd.S_below (pY51) hb); have n4_ := Aside0.mk (Kd.R_below (by (with_reducible repeat (first | apply Kd.R_alloc | apply Kd.R_drewN | apply Kd.R_drew)); exact HO143.out) hb); have n5_ := Aside0.mk (blk_below (g := gb101) (o := .cells #[.slice A0_0 l0_0.length c0_0, .slice A0_1 l0_1.length c0_1] 26 (0, 0)) (pY40) hb); have n6_ := Aside0.mk (below_step (pY37) hb); clear HO_4; clear HO_6; clear HO137; clear HO140; clear HO143; clear BK101; clear HB; have HO_4 := n0_; have HO_6 := n1_; have HO137 := n2_; have HO140 := n3_; have HO143 := n4_; have BK101 := n5_; have HB := n6_; clear n0_ n1_ n2_ n3_ n4_ n5_ n6_; (try clear hb); (try clear hb2); (try clear hk); (try clear hi)))
            go_ret
            exact ⟨by first | rfl | (simp [errW_none, errW_some] <;> rfl) | (simp [*, errW_none, errW_some] <;> rfl), pY37⟩
         ·replace c55 := Bool.eq_false_iff.mpr c55
          subst c55
          have H1 : (some false) = some r := by rw [if_neg (show ¬ (false = true) by decide)] at H; exact H
          clear H
          have H := H1
          clear H1
          obtain rfl := Option.some.inj H
          go_wp2_with (first | ((with_reducible refine gate_callee (f := 40) rfl ?_); refine goesL_ (some 45) rfl rfl Try.func40 (by kernel_rfl) rfl #[.slice Ao34 t119.length co34, .int .i64 1] rfl (pY38) ?_; (with_reducible refine (laws_markStringS.calls kj16 (fun k_ => some k_ = (.slice Ao34 t119.length co34 : Value).ownBlock) (.slice Ao34 t119.length co34) t119 1 t132 t133 w _ ?side1 ?side2 A46.out).mono ?_); (case side1 => repeat (first | (with_reducible first | exact HB.out | apply below_alloc | apply pw_below_drewN | apply below_drew1 | refine below_set ?_ GE101.out) | exact HB.out)); (case side2 => exact Kd.R_tight rfl HO_6.out); rintro e w86 ⟨rfl, hy0, hb, hkp⟩; refine ⟨_, rfl, ?_⟩; have n0_ := Aside0.mk (Kd.R_mono (ok' := fun k_ => some k_ ≠ (.slice Ao34 t119.length co34 : Value).ownBlock) (Kd.R_keptB (HO_4.out) hkp (fun k_ hk_ hs_ => (hk_) hs_)) (fun k_ hk_ => hk_.1)); have n1_ := Aside0.mk (Kd.R_reok rfl hy0 (fun k_ e_ => HO_6.out.1 k_ e_)); have n2_ := Aside0.mk (blk_kept (pY40) hkp (fun hs_ => (fun e_ => (Kd.R_ne HO_6.out BK101.out (by decide)) e_) hs_)); have n3_ := Aside0.mk (hb); clear HO_4; clear HO_6; clear BK101; clear HB; have HO_4 := n0_; have HO_6 := n1_; have BK101 := n2_; have HB := n3_; clear n0_ n1_ n2_ n3_; (try clear hb); (try clear hkp); (try clear hy0)) | ((with_reducible refine gate_callee (f := 41) rfl ?_); refine goesL_ (some 48) rfl rfl Try.func41 (by kernel_rfl) rfl #[.slice Ao34 t133.length co34, .int .i64 1] rfl (pY26) ?_; (with_reducible refine (laws_heldStringS.calls kj16 _ _ t133 1 t134 _ ?side1 ?side2 A47.out).mono ?_); (case side1 => exact pC (Kd.R_reads' HO_6.out).2.2); (case side2 => rw [show t133.length = t119.length from (Kd.R_reads' HO_6.out).1.symm]; exact (Kd.R_reads' HO_6.out).2.1); rintro e w87 ⟨rfl, hb⟩; refine ⟨_, rfl, ?_⟩; have n0_ := Aside0.mk (Kd.R_below (pY53) hb); have n1_ := Aside0.mk (Kd.R_below (pY54) hb); have n2_ := Aside0.mk (blk_below (g := gb101) (o := .cells #[.slice A0_0 l0_0.length c0_0, .slice A0_1 l0_1.length c0_1] 26 (0, 0)) (pY40) hb); have n3_ := Aside0.mk (below_step (pY37) hb); clear HO_4; clear HO_6; clear BK101; clear HB; have HO_4 := n0_; have HO_6 := n1_; have BK101 := n2_; have HB := n3_; clear n0_ n1_ n2_ n3_; (try clear hb); (try clear hb2); (try clear hk); (try clear hi); have hcz88_0 : w87.cell? ⟨gb101, 0, none⟩ = some (.slice A0_0 l0_0.length c0_0) := (blk_cell BK101.out 0).trans rfl; have hcz88_1 : w87.cell? ⟨gb101, 1, none⟩ = some (.slice A0_1 l0_1.length c0_1) := (blk_cell BK101.out 1).trans rfl; have hfz88_0 := blk_frozen BK101.out 0; have hfz88_1 := blk_frozen BK101.out 1) | ((with_reducible refine gate_callee (f := 23) rfl ?_); refine goesL_ (some 55) rfl rfl Try.func23 (by kernel_rfl) rfl #[.agg #[.slice A0_0 l0_0.length c0_0, .slice A0_1 l0_1.length c0_1]] rfl (pY38) ?_; (with_reducible refine (laws_toShareBook.calls kj16 _ _ l0_0 _ _ l0_1 t135 t138 _ ?side1 ?side2 ?side3 ?side4 A52.out).mono ?_); (case side1 => exact pC (Kd.C_below HR0_0.out HB.out)); (case side2 => exact HC0_0.out); (case side3 => exact pC (Kd.C_below HR0_1.out HB.out)); (case side4 => exact HC0_1.out); rintro e w89 ⟨v136, v139, rfl, ho0, ho1, hb⟩; refine ⟨_, rfl, ?_⟩; have n0_ := Aside0.mk (Kd.R_elder' (pY53) (Kd.R_base ho0) hb); have n1_ := Aside0.mk (Kd.R_elder' (pY54) (Kd.R_base ho0) hb); have n2_ := Aside0.mk (Kd.R_lower (Kd.R_new' (Kd.R_new' ho0 (Kd.R_lt (pY53))) (Kd.R_lt (pY54))) (below_size (pY37))); have n3_ := Aside0.mk (Kd.S_lower (Kd.S_new' (Kd.S_new' ho1 (Kd.R_lt (pY53))) (Kd.R_lt (pY54))) (below_size (pY37))); have n4_ := Aside0.mk (blk_below (g := gb101) (o := .cells #[.slice A0_0 l0_0.length c0_0, .slice A0_1 l0_1.length c0_1] 26 (0, 0)) (pY40) hb); have n5_ := Aside0.mk (below_step (pY37) hb); clear HO_4; clear HO_6; clear BK101; clear HB; have HO_4 := n0_; have HO_6 := n1_; have HO137 := n2_; have HO140 := n3_; have BK101 := n4_; have HB := n5_; clear n0_ n1_ n2_ n3_ n4_ n5_; (try clear hb); (try clear hb2); (try clear hk); (try clear hi); (try clear ho0); (try clear ho1); obtain ⟨Ao90, co90, eo90⟩ := Kd.R_slice HO137.out; subst eo90; obtain ⟨Ao91, co91, eo91⟩ := Kd.S_slice HO140.out; subst eo91) | ((with_reducible refine gate_callee (f := 43) rfl ?_); refine goesL_ (some 56) rfl rfl Try.func43 (by kernel_rfl) rfl #[.agg #[.slice Ao90 t135.length co90, .slice Ao91 t138.length co91]] rfl (pY38) ?_; (with_reducible refine (impl_ShareMoves.calls kj16 _ _ t135 _ _ t138 t141 _ ?side1 ?side2 ?side3 ?side4 A53.out).mono ?_); (case side1 => exact pC (Kd.R_reads' HO137.out).2.2); (case side2 => exact (Kd.R_reads' HO137.out).2.1); (case side3 => exact pC (Kd.S_reads' HO140.out).2.2); (case side4 => exact (Kd.S_reads' HO140.out).2.1); rintro e w92 ⟨v142, rfl, ho0, hb⟩; refine ⟨_, rfl, ?_⟩; have n0_ := Aside0.mk (Kd.R_elder' (pY53) (Kd.R_base ho0) hb); have n1_ := Aside0.mk (Kd.R_elder' (pY54) (Kd.R_base ho0) hb); have n2_ := Aside0.mk (Kd.R_elder' (pY50) (Kd.R_base ho0) hb); have n3_ := Aside0.mk (Kd.S_elder' (pY51) (Kd.R_base ho0) hb); have n4_ := Aside0.mk (Kd.R_lower (Kd.R_new' (Kd.R_new' (Kd.R_new' ho0 (Kd.R_lt (pY53))) (Kd.R_lt (pY54))) (Kd.R_lt (pY50))) (below_size (pY37))); have n5_ := Aside0.mk (blk_below (g := gb101) (o := .cells #[.slice A0_0 l0_0.length c0_0, .slice A0_1 l0_1.length c0_1] 26 (0, 0)) (pY40) hb); have n6_ := Aside0.mk (below_step (pY37) hb); clear HO_4; clear HO_6; clear HO137; clear HO140; clear BK101; clear HB; have HO_4 := n0_; have HO_6 := n1_; have HO137 := n2_; have HO140 := n3_; have HO143 := n4_; have BK101 := n5_; have HB := n6_; clear n0_ n1_ n2_ n3_ n4_ n5_ n6_; (try clear hb); (try clear hb2); (try clear hk); (try clear hi); (try clear ho0); obtain ⟨Ao93, co93, eo93⟩ := Kd.R_slice HO143.out; subst eo93) | ((with_reducible refine gate_callee (f := 34) rfl ?_); refine goesL_ (some 59) rfl rfl Try.func34 (by kernel_rfl) rfl #[.slice Ao93 t141.length co93, .slice Ao35 t109.length co35] rfl (pY38) ?_; (with_reducible refine (laws_eqStringS.calls kj16 _ _ t141 _ _ t109 false _ ?side1 ?side2 ?side3 ?side4 A54.out).mono ?_); (case side1 => exact pC (Kd.R_reads' HO143.out).2.2); (case side2 => exact (Kd.R_reads' HO143.out).2.1); (case side3 => exact pC (Kd.R_reads' HO_4.out).2.2); (case side4 => exact (Kd.R_reads' HO_4.out).2.1); rintro e w' ⟨rfl, ⟨nd, rfl⟩⟩; refine ⟨_, rfl, ?_⟩))
          go_ret
          exact ⟨by first | rfl | (simp [errW_none, errW_some] <;> rfl) | (simp [*, errW_none, errW_some] <;> rfl), pY37⟩
        ·rw [if_neg c51] at H
         have c51b0 : (t134 == t132) = false := beq_eq_false_iff_ne.mpr c51
         have c51b1 : (t134 != t132) = true := bne_iff_ne.mpr c51
         obtain rfl := Option.some.inj H
         go_wp2_with (first | ((with_reducible refine gate_callee (f := 40) rfl ?_); refine goesL_ (some 45) rfl rfl Try.func40 (by kernel_rfl) rfl #[.slice Ao34 t119.length co34, .int .i64 1] rfl (pY38) ?_; (with_reducible refine (laws_markStringS.calls kj16 (fun k_ => some k_ = (.slice Ao34 t119.length co34 : Value).ownBlock) (.slice Ao34 t119.length co34) t119 1 t132 t133 w _ ?side1 ?side2 A46.out).mono ?_); (case side1 => repeat (first | (with_reducible first | exact HB.out | apply below_alloc | apply pw_below_drewN | apply below_drew1 | refine below_set ?_ GE101.out) | exact HB.out)); (case side2 => exact Kd.R_tight rfl HO_6.out); rintro e w94 ⟨rfl, hy0, hb, hkp⟩; refine ⟨_, rfl, ?_⟩; have n0_ := Aside0.mk (Kd.R_mono (ok' := fun k_ => some k_ ≠ (.slice Ao34 t119.length co34 : Value).ownBlock) (Kd.R_keptB (HO_4.out) hkp (fun k_ hk_ hs_ => (hk_) hs_)) (fun k_ hk_ => hk_.1)); have n1_ := Aside0.mk (Kd.R_reok rfl hy0 (fun k_ e_ => HO_6.out.1 k_ e_)); have n2_ := Aside0.mk (blk_kept (pY40) hkp (fun hs_ => (fun e_ => (Kd.R_ne HO_6.out BK101.out (by decide)) e_) hs_)); have n3_ := Aside0.mk (hb); clear HO_4; clear HO_6; clear BK101; clear HB; have HO_4 := n0_; have HO_6 := n1_; have BK101 := n2_; have HB := n3_; clear n0_ n1_ n2_ n3_; (try clear hb); (try clear hkp); (try clear hy0)) | ((with_reducible refine gate_callee (f := 41) rfl ?_); refine goesL_ (some 48) rfl rfl Try.func41 (by kernel_rfl) rfl #[.slice Ao34 t133.length co34, .int .i64 1] rfl (pY26) ?_; (with_reducible refine (laws_heldStringS.calls kj16 _ _ t133 1 t134 _ ?side1 ?side2 A47.out).mono ?_); (case side1 => exact pC (Kd.R_reads' HO_6.out).2.2); (case side2 => rw [show t133.length = t119.length from (Kd.R_reads' HO_6.out).1.symm]; exact (Kd.R_reads' HO_6.out).2.1); rintro e w95 ⟨rfl, hb⟩; refine ⟨_, rfl, ?_⟩; have n0_ := Aside0.mk (Kd.R_below (pY53) hb); have n1_ := Aside0.mk (Kd.R_below (pY54) hb); have n2_ := Aside0.mk (blk_below (g := gb101) (o := .cells #[.slice A0_0 l0_0.length c0_0, .slice A0_1 l0_1.length c0_1] 26 (0, 0)) (pY40) hb); have n3_ := Aside0.mk (below_step (pY37) hb); clear HO_4; clear HO_6; clear BK101; clear HB; have HO_4 := n0_; have HO_6 := n1_; have BK101 := n2_; have HB := n3_; clear n0_ n1_ n2_ n3_; (try clear hb); (try clear hb2); (try clear hk); (try clear hi)))
         go_ret
         exact ⟨by first | rfl | (simp [errW_none, errW_some] <;> rfl) | (simp [*, errW_none, errW_some] <;> rfl), pY37⟩
   ·replace c15 := Bool.eq_false_iff.mpr c15
    subst c15
    have H1 : (some false) = some r := by rw [if_neg (show ¬ (false = true) by decide)] at H; exact H
    clear H
    have H := H1
    clear H1
    obtain rfl := Option.some.inj H
    go_enter Try.func10, Try.ntmps10
    try go_wp2_with (first | ((with_reducible refine gate_dst (N := 1) rfl ?_); refine box_event ?hg (N := 1) ?hd (cs := #[.slice A0_0 l0_0.length c0_0, .slice A0_1 l0_1.length c0_1]) (t := 26) ?hr ?_; (case hd => rfl); (case hg => rfl); (case hr => first | (go_simp; done) | (go_simp; rfl)); intro gb101 hg w96 hbox hb; have n0_ := Aside0.mk (below_step (pY39) hb); have n1_ := Aside0.mk (hbox); have n2_ := Aside0.mk ((pY36 : w.heap.size ≤ gb101)); have n3_ := Aside0.mk ((pY36 : w.heap.size ≤ gb101)); clear HB; have HB := n0_; have BK101 := n1_; have GW101 := n2_; have GE101 := n3_; clear n0_ n1_ n2_ n3_; clear hb hbox hg; have hcz97_0 : w96.cell? ⟨gb101, 0, none⟩ = some (.slice A0_0 l0_0.length c0_0) := (blk_cell BK101.out 0).trans rfl; have hcz97_1 : w96.cell? ⟨gb101, 1, none⟩ = some (.slice A0_1 l0_1.length c0_1) := (blk_cell BK101.out 1).trans rfl; have hfz97_0 := blk_frozen BK101.out 0; have hfz97_1 := blk_frozen BK101.out 1) | ((with_reducible refine gate_callee (f := 21) rfl ?_); refine goesL_ (some 13) rfl rfl Try.func21 (by kernel_rfl) rfl #[.agg #[.slice A0_0 l0_0.length c0_0, .slice A0_1 l0_1.length c0_1], .int .i64 1048576] rfl (pY38) ?_; (with_reducible refine (laws_szShareBook.calls k _ _ l0_0 _ _ l0_1 1048576 t102 _ ?side1 ?side2 ?side3 ?side4 A2.out).mono ?_); (case side1 => exact pC (Kd.C_below HR0_0.out HB.out)); (case side2 => exact HC0_0.out); (case side3 => exact pC (Kd.C_below HR0_1.out HB.out)); (case side4 => exact HC0_1.out); rintro e w98 ⟨rfl, hb⟩; refine ⟨_, rfl, ?_⟩; have n0_ := Aside0.mk (blk_below (g := gb101) (o := .cells #[.slice A0_0 l0_0.length c0_0, .slice A0_1 l0_1.length c0_1] 26 (0, 0)) (pY40) hb); have n1_ := Aside0.mk (below_step (pY37) hb); clear BK101; clear HB; have BK101 := n0_; have HB := n1_; clear n0_ n1_; (try clear hb); (try clear hb2); (try clear hk); (try clear hi); have hcz99_0 : w98.cell? ⟨gb101, 0, none⟩ = some (.slice A0_0 l0_0.length c0_0) := (blk_cell BK101.out 0).trans rfl; have hcz99_1 : w98.cell? ⟨gb101, 1, none⟩ = some (.slice A0_1 l0_1.length c0_1) := (blk_cell BK101.out 1).trans rfl; have hfz99_0 := blk_frozen BK101.out 0; have hfz99_1 := blk_frozen BK101.out 1) | ((with_reducible refine gate_callee (f := 23) rfl ?_); refine goesL_ (some 17) rfl rfl Try.func23 (by kernel_rfl) rfl #[.agg #[.slice A0_0 l0_0.length c0_0, .slice A0_1 l0_1.length c0_1]] rfl (pY38) ?_; (with_reducible refine (laws_toShareBook.calls k _ _ l0_0 _ _ l0_1 t103 t106 _ ?side1 ?side2 ?side3 ?side4 A7.out).mono ?_); (case side1 => exact pC (Kd.C_below HR0_0.out HB.out)); (case side2 => exact HC0_0.out); (case side3 => exact pC (Kd.C_below HR0_1.out HB.out)); (case side4 => exact HC0_1.out); rintro e w100 ⟨v104, v107, rfl, ho0, ho1, hb⟩; refine ⟨_, rfl, ?_⟩; have n0_ := Aside0.mk (Kd.R_lower ho0 (below_size (pY37))); have n1_ := Aside0.mk (Kd.S_lower ho1 (below_size (pY37))); have n2_ := Aside0.mk (blk_below (g := gb101) (o := .cells #[.slice A0_0 l0_0.length c0_0, .slice A0_1 l0_1.length c0_1] 26 (0, 0)) (pY40) hb); have n3_ := Aside0.mk (below_step (pY37) hb); clear BK101; clear HB; have HO105 := n0_; have HO108 := n1_; have BK101 := n2_; have HB := n3_; clear n0_ n1_ n2_ n3_; (try clear hb); (try clear hb2); (try clear hk); (try clear hi); (try clear ho0); (try clear ho1); obtain ⟨Ao101, co101, eo101⟩ := Kd.R_slice HO105.out; subst eo101; obtain ⟨Ao102, co102, eo102⟩ := Kd.S_slice HO108.out; subst eo102) | ((with_reducible refine gate_callee (f := 42) rfl ?_); refine goesL_ (some 18) rfl rfl Try.func42 (by kernel_rfl) rfl #[.agg #[.slice Ao101 t103.length co101, .slice Ao102 t106.length co102]] rfl (pY38) ?_; (with_reducible refine (spec_ShareMoves.calls k _ _ t103 _ _ t106 t109 _ ?side1 ?side2 ?side3 ?side4 A8.out).mono ?_); (case side1 => exact pC (Kd.R_reads' HO105.out).2.2); (case side2 => exact (Kd.R_reads' HO105.out).2.1); (case side3 => exact pC (Kd.S_reads' HO108.out).2.2); (case side4 => exact (Kd.S_reads' HO108.out).2.1); rintro e w103 ⟨v110, rfl, ho0, hb⟩; refine ⟨_, rfl, ?_⟩; have n0_ := Aside0.mk (Kd.R_elder' (pY44) (Kd.R_base ho0) hb); have n1_ := Aside0.mk (Kd.S_elder' (pY45) (Kd.R_base ho0) hb); have n2_ := Aside0.mk (Kd.R_lower (Kd.R_new' ho0 (Kd.R_lt (pY44))) (below_size (pY37))); have n3_ := Aside0.mk (blk_below (g := gb101) (o := .cells #[.slice A0_0 l0_0.length c0_0, .slice A0_1 l0_1.length c0_1] 26 (0, 0)) (pY40) hb); have n4_ := Aside0.mk (below_step (pY37) hb); clear HO105; clear HO108; clear BK101; clear HB; have HO105 := n0_; have HO108 := n1_; have HO111 := n2_; have BK101 := n3_; have HB := n4_; clear n0_ n1_ n2_ n3_ n4_; (try clear hb); (try clear hb2); (try clear hk); (try clear hi); (try clear ho0); have hcz104_0 : w103.cell? ⟨gb101, 0, none⟩ = some (.slice A0_0 l0_0.length c0_0) := (blk_cell BK101.out 0).trans rfl; have hcz104_1 : w103.cell? ⟨gb101, 1, none⟩ = some (.slice A0_1 l0_1.length c0_1) := (blk_cell BK101.out 1).trans rfl; have hfz104_0 := blk_frozen BK101.out 0; have hfz104_1 := blk_frozen BK101.out 1) | ((with_reducible refine gate_callee (f := 23) rfl ?_); refine goesL_ (some 20) rfl rfl Try.func23 (by kernel_rfl) rfl #[.agg #[.slice A0_0 l0_0.length c0_0, .slice A0_1 l0_1.length c0_1]] rfl (pY38) ?_; (with_reducible refine (laws_toShareBook.calls k _ _ l0_0 _ _ l0_1 t112 t115 _ ?side1 ?side2 ?side3 ?side4 A9.out).mono ?_); (case side1 => exact pC (Kd.C_below HR0_0.out HB.out)); (case side2 => exact HC0_0.out); (case side3 => exact pC (Kd.C_below HR0_1.out HB.out)); (case side4 => exact HC0_1.out); rintro e w105 ⟨v113, v116, rfl, ho0, ho1, hb⟩; refine ⟨_, rfl, ?_⟩; have n0_ := Aside0.mk (Kd.R_elder' (pY44) (Kd.R_base ho0) hb); have n1_ := Aside0.mk (Kd.S_mono (Kd.S_told (Kd.S_told (Kd.S_old (pY45) hb) (Kd.R_base ho0)) (Kd.S_base ho1)) (fun _ h_ => h_.1)); have n2_ := Aside0.mk (Kd.R_elder' (pY46) (Kd.R_base ho0) hb); have n3_ := Aside0.mk (Kd.R_lower (Kd.R_new' (Kd.R_new' ho0 (Kd.R_lt (pY44))) (Kd.R_lt (pY46))) (below_size (pY37))); have n4_ := Aside0.mk (Kd.S_lower (Kd.S_new' (Kd.S_new' (Kd.S_new' ho1 (Kd.R_lt (pY44))) (Kd.S_lt (pY45))) (Kd.R_lt (pY46))) (below_size (pY37))); have n5_ := Aside0.mk (blk_below (g := gb101) (o := .cells #[.slice A0_0 l0_0.length c0_0, .slice A0_1 l0_1.length c0_1] 26 (0, 0)) (pY40) hb); have n6_ := Aside0.mk (below_step (pY37) hb); clear HO105; clear HO108; clear HO111; clear BK101; clear HB; have HO105 := n0_; have HO108 := n1_; have HO111 := n2_; have HO114 := n3_; have HO117 := n4_; have BK101 := n5_; have HB := n6_; clear n0_ n1_ n2_ n3_ n4_ n5_ n6_; (try clear hb); (try clear hb2); (try clear hk); (try clear hi); (try clear ho0); (try clear ho1)) | ((with_reducible refine gate_dst (N := 5) rfl ?_); refine box_event ?hg (N := 5) ?hd (cs := #[.slice none 0 0, .slice none 0 0]) (t := 31) ?hr ?_; (case hd => rfl); (case hg => rfl); (case hr => first | (go_simp; done) | (go_simp; rfl)); intro gb118 hg w106 hbox hb; have n0_ := Aside0.mk (Kd.R_below (pY44) hb); have n1_ := Aside0.mk (Kd.S_below (pY45) hb); have n2_ := Aside0.mk (Kd.R_below (pY46) hb); have n3_ := Aside0.mk (Kd.R_below (pY47) hb); have n4_ := Aside0.mk (Kd.S_below (pY48) hb); have n5_ := Aside0.mk (blk_below (g := gb101) (o := .cells #[.slice A0_0 l0_0.length c0_0, .slice A0_1 l0_1.length c0_1] 26 (0, 0)) (pY40) hb); have n6_ := Aside0.mk (below_step (pY37) hb); have n7_ := Aside0.mk (hbox); have n8_ := Aside0.mk ((pY27 : w.heap.size ≤ gb118)); have n9_ := Aside0.mk ((pY27 : w.heap.size ≤ gb118)); have n10_ := Aside0.mk ((pY19 : gb101 ≠ gb118)); have n11_ := Aside0.mk ((pY20 : gb118 ≠ gb101)); clear HO105; clear HO108; clear HO111; clear HO114; clear HO117; clear BK101; clear HB; have HO105 := n0_; have HO108 := n1_; have HO111 := n2_; have HO114 := n3_; have HO117 := n4_; have BK101 := n5_; have HB := n6_; have BK118 := n7_; have GW118 := n8_; have GE118 := n9_; have NB101_118 := n10_; have NB118_101 := n11_; clear n0_ n1_ n2_ n3_ n4_ n5_ n6_ n7_ n8_ n9_ n10_ n11_; clear hb hbox hg; obtain ⟨Ao107, co107, eo107⟩ := Kd.R_slice HO114.out; subst eo107; have hnb108 := NB118_101.out; have hnc108 := NB101_118.out; have hcz109_0 : w106.cell? ⟨gb118, 0, none⟩ = some (.slice none 0 0) := (blk_cell BK118.out 0).trans rfl; have hcz109_1 : w106.cell? ⟨gb118, 1, none⟩ = some (.slice none 0 0) := (blk_cell BK118.out 1).trans rfl; have hfz109_0 := blk_frozen BK118.out 0; have hfz109_1 := blk_frozen BK118.out 1; obtain ⟨Ao110, co110, eo110⟩ := Kd.S_slice HO117.out; subst eo110) | ((with_reducible refine gate_callee (f := 43) rfl ?_); refine goesL_ (some 22) rfl rfl Try.func43 (by kernel_rfl) rfl #[.agg #[.slice Ao107 t112.length co107, .slice Ao110 t115.length co110]] rfl (pY38) ?_; (with_reducible refine (impl_ShareMoves.calls k _ _ t112 _ _ t115 t119 _ ?side1 ?side2 ?side3 ?side4 A10.out).mono ?_); (case side1 => refine (Kd.R_reads' (e := 9) (base := w.heap.size) (ok := fun k_ => ((True ∧ some k_ ≠ (.slice Ao101 t103.length co101 : Value).ownBlock) ∧ some k_ ≠ (v110 : Value).ownBlock)) (n := t112.length) (c := co107) ?_).2.2; exact (pY8)); (case side2 => exact (Kd.R_reads' HO114.out).2.1); (case side3 => refine (Kd.S_reads' (e := 56) (base := w.heap.size) (ok := fun k_ => (((some k_ ≠ (.slice Ao107 t112.length co107 : Value).ownBlock ∧ some k_ ≠ (.slice Ao101 t103.length co101 : Value).ownBlock) ∧ some k_ ≠ (.slice Ao102 t106.length co102 : Value).ownBlock) ∧ some k_ ≠ (v110 : Value).ownBlock)) (n := t115.length) (c := co110) ?_).2.2; exact (by (with_reducible repeat (first | apply Kd.S_alloc | apply Kd.S_drewN | apply Kd.S_drew)); exact (Kd.S_mono (Kd.S_far (p := ⟨gb118, 1, none⟩) (Kd.S_far (p := ⟨gb118, 0, none⟩) (Kd.S_types HO117.out BK118.out (by decide)) (fun _ hk => hk.2) (.slice Ao107 t112.length co107)) (fun _ hk => hk.2) (.slice Ao110 t115.length co110)) (fun _ h_ => h_.1)))); (case side4 => exact (Kd.S_reads' HO117.out).2.1); rintro e w111 ⟨v120, rfl, ho0, hb⟩; refine ⟨_, rfl, ?_⟩; have n0_ := Aside0.mk (Kd.R_elder' (by (with_reducible repeat (first | apply Kd.R_alloc | apply Kd.R_drewN | apply Kd.R_drew)); exact (Kd.R_mono (Kd.R_far (p := ⟨gb118, 1, none⟩) (Kd.R_far (p := ⟨gb118, 0, none⟩) (Kd.R_types HO105.out BK118.out (by decide)) (fun _ hk => hk.2) (.slice Ao107 t112.length co107)) (fun _ hk => hk.2) (.slice Ao110 t115.length co110)) (fun _ h_ => h_.1))) (Kd.R_base ho0) hb); have n1_ := Aside0.mk (Kd.S_elder' (by (with_reducible repeat (first | apply Kd.S_alloc | apply Kd.S_drewN | apply Kd.S_drew)); exact (Kd.S_mono (Kd.S_far (p := ⟨gb118, 1, none⟩) (Kd.S_far (p := ⟨gb118, 0, none⟩) (Kd.S_types HO108.out BK118.out (by decide)) (fun _ hk => hk.2) (.slice Ao107 t112.length co107)) (fun _ hk => hk.2) (.slice Ao110 t115.length co110)) (fun _ h_ => h_.1))) (Kd.R_base ho0) hb); have n2_ := Aside0.mk (Kd.R_elder' (by (with_reducible repeat (first | apply Kd.R_alloc | apply Kd.R_drewN | apply Kd.R_drew)); exact (Kd.R_mono (Kd.R_far (p := ⟨gb118, 1, none⟩) (Kd.R_far (p := ⟨gb118, 0, none⟩) (Kd.R_types HO111.out BK118.out (by decide)) (fun _ hk => hk.2) (.slice Ao107 t112.length co107)) (fun _ hk => hk.2) (.slice Ao110 t115.length co110)) (fun _ h_ => h_.1))) (Kd.R_base ho0) hb); have n3_ := Aside0.mk (Kd.R_elder' (pY8) (Kd.R_base ho0) hb); have n4_ := Aside0.mk (Kd.S_elder' (by (with_reducible repeat (first | apply Kd.S_alloc | apply Kd.S_drewN | apply Kd.S_drew)); exact (Kd.S_mono (Kd.S_far (p := ⟨gb118, 1, none⟩) (Kd.S_far (p := ⟨gb118, 0, none⟩) (Kd.S_types HO117.out BK118.out (by decide)) (fun _ hk => hk.2) (.slice Ao107 t112.length co107)) (fun _ hk => hk.2) (.slice Ao110 t115.length co110)) (fun _ h_ => h_.1))) (Kd.R_base ho0) hb); have n5_ := Aside0.mk (Kd.R_lower (Kd.R_new' (Kd.R_new' (Kd.R_new' ho0 (Kd.R_lt (by (with_reducible repeat (first | apply Kd.R_alloc | apply Kd.R_drewN | apply Kd.R_drew)); exact (Kd.R_mono (Kd.R_far (p := ⟨gb118, 1, none⟩) (Kd.R_far (p := ⟨gb118, 0, none⟩) (Kd.R_types HO105.out BK118.out (by decide)) (fun _ hk => hk.2) (.slice Ao107 t112.length co107)) (fun _ hk => hk.2) (.slice Ao110 t115.length co110)) (fun _ h_ => h_.1))))) (Kd.R_lt (by (with_reducible repeat (first | apply Kd.R_alloc | apply Kd.R_drewN | apply Kd.R_drew)); exact (Kd.R_mono (Kd.R_far (p := ⟨gb118, 1, none⟩) (Kd.R_far (p := ⟨gb118, 0, none⟩) (Kd.R_types HO111.out BK118.out (by decide)) (fun _ hk => hk.2) (.slice Ao107 t112.length co107)) (fun _ hk => hk.2) (.slice Ao110 t115.length co110)) (fun _ h_ => h_.1))))) (Kd.R_lt (pY8))) (below_size (pY34))); have n6_ := Aside0.mk (blk_below (g := gb101) (o := .cells #[.slice A0_0 l0_0.length c0_0, .slice A0_1 l0_1.length c0_1] 26 (0, 0)) (pY5) hb); have n7_ := Aside0.mk (blk_below (g := gb118) (o := .cells #[.slice Ao107 t112.length co107, .slice Ao110 t115.length co110] 31 (0, 0)) (by (with_reducible repeat (first | refine blk_drewN ?_ _ | refine blk_drew ?_ | refine blk_alloc ?_ _)); refine blk_put (cs := #[.slice Ao107 t112.length co107, .slice none 0 0]) ?_ 1 _ rfl; (with_reducible repeat (first | refine blk_drewN ?_ _ | refine blk_drew ?_ | refine blk_alloc ?_ _)); refine blk_put (cs := #[.slice none 0 0, .slice none 0 0]) ?_ 0 _ rfl; (with_reducible repeat (first | refine blk_drewN ?_ _ | refine blk_drew ?_ | refine blk_alloc ?_ _)); exact BK118.out) hb); have n8_ := Aside0.mk (below_step (pY34) hb); clear HO105; clear HO108; clear HO111; clear HO114; clear HO117; clear BK101; clear BK118; clear HB; have HO105 := n0_; have HO108 := n1_; have HO111 := n2_; have HO114 := n3_; have HO117 := n4_; have HO121 := n5_; have BK101 := n6_; have BK118 := n7_; have HB := n8_; clear n0_ n1_ n2_ n3_ n4_ n5_ n6_ n7_ n8_; (try clear hb); (try clear hb2); (try clear hk); (try clear hi); (try clear ho0); obtain ⟨Ao112, co112, eo112⟩ := Kd.R_slice HO121.out; subst eo112; obtain ⟨Ao113, co113, eo113⟩ := Kd.R_slice HO111.out; subst eo113) | ((with_reducible refine gate_callee (f := 34) rfl ?_); refine goesL_ (some 25) rfl rfl Try.func34 (by kernel_rfl) rfl #[.slice Ao112 t119.length co112, .slice Ao113 t109.length co113] rfl (pY38) ?_; (with_reducible refine (laws_eqStringS.calls k _ _ t119 _ _ t109 true _ ?side1 ?side2 ?side3 ?side4 A11.out).mono ?_); (case side1 => exact pC (Kd.R_reads' HO121.out).2.2); (case side2 => exact (Kd.R_reads' HO121.out).2.1); (case side3 => exact pC (Kd.R_reads' HO111.out).2.2); (case side4 => exact (Kd.R_reads' HO111.out).2.1); rintro e w' ⟨rfl, ⟨nd, rfl⟩⟩; refine ⟨_, rfl, ?_⟩))
    (try (rw [drewN_self w111]; generalize hq_ : World.drewN w111 _ = w111; have n0_ : Aside0 (Kd.R Kd.string 9 w111 w.heap.size (fun k_ => (((True ∧ some k_ ≠ (.slice Ao113 t109.length co113 : Value).ownBlock) ∧ some k_ ≠ (.slice Ao107 t112.length co107 : Value).ownBlock) ∧ some k_ ≠ (.slice Ao112 t119.length co112 : Value).ownBlock)) (.slice Ao101 t103.length co101) t103) := ⟨by rw [← hq_]; exact (pY44)⟩; have n1_ : Aside0 (Kd.S k56 56 w111 w.heap.size (fun k_ => ((((some k_ ≠ (.slice Ao101 t103.length co101 : Value).ownBlock ∧ some k_ ≠ (.slice Ao113 t109.length co113 : Value).ownBlock) ∧ some k_ ≠ (.slice Ao107 t112.length co107 : Value).ownBlock) ∧ some k_ ≠ (.slice Ao110 t115.length co110 : Value).ownBlock) ∧ some k_ ≠ (.slice Ao112 t119.length co112 : Value).ownBlock)) (.slice Ao102 t106.length co102) t106) := ⟨by rw [← hq_]; exact (pY45)⟩; have n2_ : Aside0 (Kd.R Kd.string 9 w111 w.heap.size (fun k_ => (((True ∧ some k_ ≠ (.slice Ao101 t103.length co101 : Value).ownBlock) ∧ some k_ ≠ (.slice Ao107 t112.length co107 : Value).ownBlock) ∧ some k_ ≠ (.slice Ao112 t119.length co112 : Value).ownBlock)) (.slice Ao113 t109.length co113) t109) := ⟨by rw [← hq_]; exact (pY46)⟩; have n3_ : Aside0 (Kd.R Kd.string 9 w111 w.heap.size (fun k_ => (((True ∧ some k_ ≠ (.slice Ao101 t103.length co101 : Value).ownBlock) ∧ some k_ ≠ (.slice Ao113 t109.length co113 : Value).ownBlock) ∧ some k_ ≠ (.slice Ao112 t119.length co112 : Value).ownBlock)) (.slice Ao107 t112.length co107) t112) := ⟨by rw [← hq_]; exact (pY47)⟩; have n4_ : Aside0 (Kd.S k56 56 w111 w.heap.size (fun k_ => ((((some k_ ≠ (.slice Ao107 t112.length co107 : Value).ownBlock ∧ some k_ ≠ (.slice Ao101 t103.length co101 : Value).ownBlock) ∧ some k_ ≠ (.slice Ao102 t106.length co102 : Value).ownBlock) ∧ some k_ ≠ (.slice Ao113 t109.length co113 : Value).ownBlock) ∧ some k_ ≠ (.slice Ao112 t119.length co112 : Value).ownBlock)) (.slice Ao110 t115.length co110) t115) := ⟨by rw [← hq_]; exact (pY48)⟩; have n5_ : Aside0 (Kd.R Kd.string 9 w111 w.heap.size (fun k_ => (((True ∧ some k_ ≠ (.slice Ao101 t103.length co101 : Value).ownBlock) ∧ some k_ ≠ (.slice Ao113 t109.length co113 : Value).ownBlock) ∧ some k_ ≠ (.slice Ao107 t112.length co107 : Value).ownBlock)) (.slice Ao112 t119.length co112) t119) := ⟨by rw [← hq_]; exact (pY49)⟩; have n6_ : Aside0 (w111.heap[gb101]? = some (.cells #[.slice A0_0 l0_0.length c0_0, .slice A0_1 l0_1.length c0_1] 26 (0, 0))) := ⟨by rw [← hq_]; exact (pY40)⟩; have n7_ : Aside0 (w111.heap[gb118]? = some (.cells #[.slice Ao107 t112.length co107, .slice Ao110 t115.length co110] 31 (0, 0))) := ⟨by rw [← hq_]; exact (pY42)⟩; have n8_ : Aside0 (Below w.heap.size w w111) := ⟨by rw [← hq_]; exact (pY34)⟩; clear HO105 HO108 HO111 HO114 HO117 HO121 BK101 BK118 HB hq_; have HO105 := n0_; have HO108 := n1_; have HO111 := n2_; have HO114 := n3_; have HO117 := n4_; have HO121 := n5_; have BK101 := n6_; have BK118 := n7_; have HB := n8_; clear n0_ n1_ n2_ n3_ n4_ n5_ n6_ n7_ n8_))
    have n0_ := Aside0.mk (Kd.R_drew HO105.out)
    have n1_ := Aside0.mk (Kd.S_drew HO108.out)
    have n2_ := Aside0.mk (Kd.R_drew HO111.out)
    have n3_ := Aside0.mk (Kd.R_drew HO114.out)
    have n4_ := Aside0.mk (Kd.S_drew HO117.out)
    have n5_ := Aside0.mk (Kd.R_drew HO121.out)
    have n6_ := Aside0.mk (blk_drew BK101.out)
    have n7_ := Aside0.mk (blk_drew BK118.out)
    have n8_ := Aside0.mk (below_drew1 HB.out)
    clear HO105
    clear HO108
    clear HO111
    clear HO114
    clear HO117
    clear HO121
    clear BK101
    clear BK118
    clear HB
    have HO105 := n0_
    have HO108 := n1_
    have HO111 := n2_
    have HO114 := n3_
    have HO117 := n4_
    have HO121 := n5_
    have BK101 := n6_
    have BK118 := n7_
    have HB := n8_
    clear n0_ n1_ n2_ n3_ n4_ n5_ n6_ n7_ n8_
    refine start_ (n := 5) (S := fun w' => w'.cell? ⟨gb118, 0, none⟩ = some (.slice Ao107 t112.length co107) ∧ w'.cell? ⟨gb118, 1, none⟩ = some (.slice Ao110 t115.length co110) ∧ w'.cell? ⟨gb101, 0, none⟩ = some (.slice A0_0 l0_0.length c0_0) ∧ w'.cell? ⟨gb101, 1, none⟩ = some (.slice A0_1 l0_1.length c0_1)) (ds := []) #[false, false, false, false, false] (by kernel_rfl) rfl rfl ⟨(blk_cell BK118.out 0).trans rfl, (blk_cell BK118.out 1).trans rfl, (blk_cell BK101.out 0).trans rfl, (blk_cell BK101.out 1).trans rfl⟩ (fun hHeld => ?_)
    generalize w111.drew = w114 at HO105 HO108 HO111 HO114 HO117 HO121 BK101 BK118 HB hHeld ⊢
    refine tK4_ (i := 0) (N := some 27) #[true, false, false, false, false] ?_
    refine tK4_ (i := 1) (N := some 28) #[true, true, false, false, false] ?_
    refine one_ (i := 2) (N := some 29) #[true, true, true, false, false] rfl rfl (by kernel_rfl) (by decide) (fun K hK => ?_)
    refine goes_ Try.func23 (by kernel_rfl) rfl #[.agg #[.slice A0_0 l0_0.length c0_0, .slice A0_1 l0_1.length c0_1]] (by rfl) rfl rfl (pY38) ?_
    with_reducible refine (laws_toShareBook.calls k _ _ l0_0 _ _ l0_1 t123 t126 _ ?side1 ?side2 ?side3 ?side4 A13.out).mono ?_
    (case side1 => exact pC (Kd.C_below HR0_0.out HB.out))
    (case side2 => exact HC0_0.out)
    (case side3 => exact pC (Kd.C_below HR0_1.out HB.out))
    (case side4 => exact HC0_1.out)
    rintro e w115 ⟨v124, v127, rfl, ho0, ho1, hb⟩
    refine ⟨_, rfl, ?_⟩
    have n0_ := Aside0.mk (Kd.R_elder' (pY44) (Kd.R_base ho0) hb)
    have n1_ := Aside0.mk (Kd.S_mono (Kd.S_told (Kd.S_told (Kd.S_old (pY45) hb) (Kd.R_base ho0)) (Kd.S_base ho1)) (fun _ h_ => h_.1))
    have n2_ := Aside0.mk (Kd.R_elder' (pY46) (Kd.R_base ho0) hb)
    have n3_ := Aside0.mk (Kd.R_elder' (pY47) (Kd.R_base ho0) hb)
    have n4_ := Aside0.mk (Kd.S_mono (Kd.S_told (Kd.S_told (Kd.S_old (pY48) hb) (Kd.R_base ho0)) (Kd.S_base ho1)) (fun _ h_ => h_.1))
    have n5_ := Aside0.mk (Kd.R_elder' (pY49) (Kd.R_base ho0) hb)
    have n6_ := Aside0.mk (Kd.R_lower (Kd.R_new' (Kd.R_new' (Kd.R_new' (Kd.R_new' ho0 (Kd.R_lt (pY44))) (Kd.R_lt (pY46))) (Kd.R_lt (pY47))) (Kd.R_lt (pY49))) (below_size (pY34)))
    have n7_ := Aside0.mk (Kd.S_lower (Kd.S_new' (Kd.S_new' (Kd.S_new' (Kd.S_new' (Kd.S_new' (Kd.S_new' ho1 (Kd.R_lt (pY44))) (Kd.S_lt (pY45))) (Kd.R_lt (pY46))) (Kd.R_lt (pY47))) (Kd.S_lt (pY48))) (Kd.R_lt (pY49))) (below_size (pY34)))
    have n8_ := Aside0.mk (blk_below (g := gb101) (o := .cells #[.slice A0_0 l0_0.length c0_0, .slice A0_1 l0_1.length c0_1] 26 (0, 0)) (pY40) hb)
    have n9_ := Aside0.mk (blk_below (g := gb118) (o := .cells #[.slice Ao107 t112.length co107, .slice Ao110 t115.length co110] 31 (0, 0)) (pY42) hb)
    have n10_ := Aside0.mk (below_step (pY34) hb)
    clear HO105
    clear HO108
    clear HO111
    clear HO114
    clear HO117
    clear HO121
    clear BK101
    clear BK118
    clear HB
    have HO105 := n0_
    have HO108 := n1_
    have HO111 := n2_
    have HO114 := n3_
    have HO117 := n4_
    have HO121 := n5_
    have HO125 := n6_
    have HO128 := n7_
    have BK101 := n8_
    have BK118 := n9_
    have HB := n10_
    clear n0_ n1_ n2_ n3_ n4_ n5_ n6_ n7_ n8_ n9_ n10_
    (try clear hb)
    (try clear hb2)
    (try clear hk)
    (try clear hi)
    (try clear ho0)
    (try clear ho1)
    obtain ⟨Ao116, co116, eo116⟩ := Kd.R_slice HO125.out
    (first | subst eo116 | (injection eo116 with f1_ f2_ f3_; have f4_ := f1_.symm; have f5_ := f3_.symm; clear f1_ f2_ f3_; subst f4_; subst f5_))
    obtain ⟨Ao117, co117, eo117⟩ := Kd.S_slice HO128.out
    (first | subst eo117 | (injection eo117 with f1_ f2_ f3_; have f4_ := f1_.symm; have f5_ := f3_.symm; clear f1_ f2_ f3_; subst f4_; subst f5_))
    refine hK.out _ _ ⟨(blk_cell BK118.out 0).trans rfl, (blk_cell BK118.out 1).trans rfl, (blk_cell BK101.out 0).trans rfl, (blk_cell BK101.out 1).trans rfl⟩ (fun hHeld => ?_)
    clear hK K
    refine norm_ (a' := ?_) ?_ ?_
    rotate_left
    ·show Act.put _ (some 29) _ = _
     simp only [pW]
     rfl
    refine one_ (i := 3) (N := some 30) #[true, true, true, true, false] rfl rfl (by kernel_rfl) (by decide) (fun K hK => ?_)
    refine goes_ Try.func25 (by kernel_rfl) rfl #[.agg #[.slice Ao107 t112.length co107, .slice Ao110 t115.length co110], .agg #[.slice Ao116 t123.length co116, .slice Ao117 t126.length co117]] (by rfl) rfl rfl (pY38) ?_
    with_reducible refine (laws_eqShareBook.calls k _ _ t112 _ _ t115 _ _ t123 _ _ t126 false _ ?side1 ?side2 ?side3 ?side4 ?side5 ?side6 ?side7 ?side8 A14.out).mono ?_
    (case side1 => exact pC (Kd.R_reads' HO114.out).2.2)
    (case side2 => exact (Kd.R_reads' HO114.out).2.1)
    (case side3 => exact pC (Kd.S_reads' HO117.out).2.2)
    (case side4 => exact (Kd.S_reads' HO117.out).2.1)
    (case side5 => exact pC (Kd.R_reads' HO125.out).2.2)
    (case side6 => exact (Kd.R_reads' HO125.out).2.1)
    (case side7 => exact pC (Kd.S_reads' HO128.out).2.2)
    (case side8 => exact (Kd.S_reads' HO128.out).2.1)
    rintro e w118 ⟨rfl, hb⟩
    refine ⟨_, rfl, ?_⟩
    have n0_ := Aside0.mk (Kd.R_below (pY44) hb)
    have n1_ := Aside0.mk (Kd.S_below (pY45) hb)
    have n2_ := Aside0.mk (Kd.R_below (pY46) hb)
    have n3_ := Aside0.mk (Kd.R_below (pY47) hb)
    have n4_ := Aside0.mk (Kd.S_below (pY48) hb)
    have n5_ := Aside0.mk (Kd.R_below (pY49) hb)
    have n6_ := Aside0.mk (Kd.R_below (by (with_reducible repeat (first | apply Kd.R_alloc | apply Kd.R_drewN | apply Kd.R_drew)); exact HO125.out) hb)
    have n7_ := Aside0.mk (Kd.S_below (by (with_reducible repeat (first | apply Kd.S_alloc | apply Kd.S_drewN | apply Kd.S_drew)); exact HO128.out) hb)
    have n8_ := Aside0.mk (blk_below (g := gb101) (o := .cells #[.slice A0_0 l0_0.length c0_0, .slice A0_1 l0_1.length c0_1] 26 (0, 0)) (pY40) hb)
    have n9_ := Aside0.mk (blk_below (g := gb118) (o := .cells #[.slice Ao107 t112.length co107, .slice Ao110 t115.length co110] 31 (0, 0)) (pY42) hb)
    have n10_ := Aside0.mk (below_step (pY34) hb)
    clear HO105
    clear HO108
    clear HO111
    clear HO114
    clear HO117
    clear HO121
    clear HO125
    clear HO128
    clear BK101
    clear BK118
    clear HB
    have HO105 := n0_
    have HO108 := n1_
    have HO111 := n2_
    have HO114 := n3_
    have HO117 := n4_
    have HO121 := n5_
    have HO125 := n6_
    have HO128 := n7_
    have BK101 := n8_
    have BK118 := n9_
    have HB := n10_
    clear n0_ n1_ n2_ n3_ n4_ n5_ n6_ n7_ n8_ n9_ n10_
    (try clear hb)
    (try clear hb2)
    (try clear hk)
    (try clear hi)
    refine hK.out _ _ ⟨(blk_cell BK118.out 0).trans rfl, (blk_cell BK118.out 1).trans rfl, (blk_cell BK101.out 0).trans rfl, (blk_cell BK101.out 1).trans rfl⟩ (fun hHeld => ?_)
    clear hK K
    refine norm_ (a' := ?_) ?_ ?_
    rotate_left
    ·show Act.put _ (some 30) _ = _
     simp only [pW]
     rfl
    refine pU0 (i := 4) (N := some 31) #[true, true, true, true, true] ?_
    refine done_ (by kernel_rfl) ?_
    try go_wp2
    go_ret
    exact ⟨by first | rfl | (simp [errW_none, errW_some] <;> rfl) | (simp [*, errW_none, errW_some] <;> rfl), pY34⟩
  ·replace c12 := Bool.eq_false_iff.mpr c12
   subst c12
   have H1 : (some false) = some r := by rw [if_neg (show ¬ (false = true) by decide)] at H; exact H
   clear H
   have H := H1
   clear H1
   obtain rfl := Option.some.inj H
   go_enter Try.func10, Try.ntmps10
   go_wp2_with (first | ((with_reducible refine gate_dst (N := 1) rfl ?_); refine box_event ?hg (N := 1) ?hd (cs := #[.slice A0_0 l0_0.length c0_0, .slice A0_1 l0_1.length c0_1]) (t := 26) ?hr ?_; (case hd => rfl); (case hg => rfl); (case hr => first | (go_simp; done) | (go_simp; rfl)); intro gb101 hg w119 hbox hb; have n0_ := Aside0.mk (below_step (pY39) hb); have n1_ := Aside0.mk (hbox); have n2_ := Aside0.mk ((pY36 : w.heap.size ≤ gb101)); have n3_ := Aside0.mk ((pY36 : w.heap.size ≤ gb101)); clear HB; have HB := n0_; have BK101 := n1_; have GW101 := n2_; have GE101 := n3_; clear n0_ n1_ n2_ n3_; clear hb hbox hg; have hcz120_0 : w119.cell? ⟨gb101, 0, none⟩ = some (.slice A0_0 l0_0.length c0_0) := (blk_cell BK101.out 0).trans rfl; have hcz120_1 : w119.cell? ⟨gb101, 1, none⟩ = some (.slice A0_1 l0_1.length c0_1) := (blk_cell BK101.out 1).trans rfl; have hfz120_0 := blk_frozen BK101.out 0; have hfz120_1 := blk_frozen BK101.out 1) | ((with_reducible refine gate_callee (f := 21) rfl ?_); refine goesL_ (some 13) rfl rfl Try.func21 (by kernel_rfl) rfl #[.agg #[.slice A0_0 l0_0.length c0_0, .slice A0_1 l0_1.length c0_1], .int .i64 1048576] rfl (pY38) ?_; (with_reducible refine (laws_szShareBook.calls k _ _ l0_0 _ _ l0_1 1048576 t102 _ ?side1 ?side2 ?side3 ?side4 A2.out).mono ?_); (case side1 => exact pC (Kd.C_below HR0_0.out HB.out)); (case side2 => exact HC0_0.out); (case side3 => exact pC (Kd.C_below HR0_1.out HB.out)); (case side4 => exact HC0_1.out); rintro e w121 ⟨rfl, hb⟩; refine ⟨_, rfl, ?_⟩; have n0_ := Aside0.mk (blk_below (g := gb101) (o := .cells #[.slice A0_0 l0_0.length c0_0, .slice A0_1 l0_1.length c0_1] 26 (0, 0)) (pY40) hb); have n1_ := Aside0.mk (below_step (pY37) hb); clear BK101; clear HB; have BK101 := n0_; have HB := n1_; clear n0_ n1_; (try clear hb); (try clear hb2); (try clear hk); (try clear hi); have hcz122_0 : w121.cell? ⟨gb101, 0, none⟩ = some (.slice A0_0 l0_0.length c0_0) := (blk_cell BK101.out 0).trans rfl; have hcz122_1 : w121.cell? ⟨gb101, 1, none⟩ = some (.slice A0_1 l0_1.length c0_1) := (blk_cell BK101.out 1).trans rfl; have hfz122_0 := blk_frozen BK101.out 0; have hfz122_1 := blk_frozen BK101.out 1) | ((with_reducible refine gate_callee (f := 23) rfl ?_); refine goesL_ (some 17) rfl rfl Try.func23 (by kernel_rfl) rfl #[.agg #[.slice A0_0 l0_0.length c0_0, .slice A0_1 l0_1.length c0_1]] rfl (pY38) ?_; (with_reducible refine (laws_toShareBook.calls k _ _ l0_0 _ _ l0_1 t103 t106 _ ?side1 ?side2 ?side3 ?side4 A7.out).mono ?_); (case side1 => exact pC (Kd.C_below HR0_0.out HB.out)); (case side2 => exact HC0_0.out); (case side3 => exact pC (Kd.C_below HR0_1.out HB.out)); (case side4 => exact HC0_1.out); rintro e w123 ⟨v104, v107, rfl, ho0, ho1, hb⟩; refine ⟨_, rfl, ?_⟩; have n0_ := Aside0.mk (Kd.R_lower ho0 (below_size (pY37))); have n1_ := Aside0.mk (Kd.S_lower ho1 (below_size (pY37))); have n2_ := Aside0.mk (blk_below (g := gb101) (o := .cells #[.slice A0_0 l0_0.length c0_0, .slice A0_1 l0_1.length c0_1] 26 (0, 0)) (pY40) hb); have n3_ := Aside0.mk (below_step (pY37) hb); clear BK101; clear HB; have HO105 := n0_; have HO108 := n1_; have BK101 := n2_; have HB := n3_; clear n0_ n1_ n2_ n3_; (try clear hb); (try clear hb2); (try clear hk); (try clear hi); (try clear ho0); (try clear ho1); obtain ⟨Ao124, co124, eo124⟩ := Kd.R_slice HO105.out; subst eo124; obtain ⟨Ao125, co125, eo125⟩ := Kd.S_slice HO108.out; subst eo125) | ((with_reducible refine gate_callee (f := 42) rfl ?_); refine goesL_ (some 18) rfl rfl Try.func42 (by kernel_rfl) rfl #[.agg #[.slice Ao124 t103.length co124, .slice Ao125 t106.length co125]] rfl (pY38) ?_; (with_reducible refine (spec_ShareMoves.calls k _ _ t103 _ _ t106 t109 _ ?side1 ?side2 ?side3 ?side4 A8.out).mono ?_); (case side1 => exact pC (Kd.R_reads' HO105.out).2.2); (case side2 => exact (Kd.R_reads' HO105.out).2.1); (case side3 => exact pC (Kd.S_reads' HO108.out).2.2); (case side4 => exact (Kd.S_reads' HO108.out).2.1); rintro e w126 ⟨v110, rfl, ho0, hb⟩; refine ⟨_, rfl, ?_⟩; have n0_ := Aside0.mk (Kd.R_elder' (pY44) (Kd.R_base ho0) hb); have n1_ := Aside0.mk (Kd.S_elder' (pY45) (Kd.R_base ho0) hb); have n2_ := Aside0.mk (Kd.R_lower (Kd.R_new' ho0 (Kd.R_lt (pY44))) (below_size (pY37))); have n3_ := Aside0.mk (blk_below (g := gb101) (o := .cells #[.slice A0_0 l0_0.length c0_0, .slice A0_1 l0_1.length c0_1] 26 (0, 0)) (pY40) hb); have n4_ := Aside0.mk (below_step (pY37) hb); clear HO105; clear HO108; clear BK101; clear HB; have HO105 := n0_; have HO108 := n1_; have HO111 := n2_; have BK101 := n3_; have HB := n4_; clear n0_ n1_ n2_ n3_ n4_; (try clear hb); (try clear hb2); (try clear hk); (try clear hi); (try clear ho0); have hcz127_0 : w126.cell? ⟨gb101, 0, none⟩ = some (.slice A0_0 l0_0.length c0_0) := (blk_cell BK101.out 0).trans rfl; have hcz127_1 : w126.cell? ⟨gb101, 1, none⟩ = some (.slice A0_1 l0_1.length c0_1) := (blk_cell BK101.out 1).trans rfl; have hfz127_0 := blk_frozen BK101.out 0; have hfz127_1 := blk_frozen BK101.out 1) | ((with_reducible refine gate_callee (f := 23) rfl ?_); refine goesL_ (some 20) rfl rfl Try.func23 (by kernel_rfl) rfl #[.agg #[.slice A0_0 l0_0.length c0_0, .slice A0_1 l0_1.length c0_1]] rfl (pY38) ?_; (with_reducible refine (laws_toShareBook.calls k _ _ l0_0 _ _ l0_1 t112 t115 _ ?side1 ?side2 ?side3 ?side4 A9.out).mono ?_); (case side1 => exact pC (Kd.C_below HR0_0.out HB.out)); (case side2 => exact HC0_0.out); (case side3 => exact pC (Kd.C_below HR0_1.out HB.out)); (case side4 => exact HC0_1.out); rintro e w128 ⟨v113, v116, rfl, ho0, ho1, hb⟩; refine ⟨_, rfl, ?_⟩; have n0_ := Aside0.mk (Kd.R_elder' (pY44) (Kd.R_base ho0) hb); have n1_ := Aside0.mk (Kd.S_mono (Kd.S_told (Kd.S_told (Kd.S_old (pY45) hb) (Kd.R_base ho0)) (Kd.S_base ho1)) (fun _ h_ => h_.1)); have n2_ := Aside0.mk (Kd.R_elder' (pY46) (Kd.R_base ho0) hb); have n3_ := Aside0.mk (Kd.R_lower (Kd.R_new' (Kd.R_new' ho0 (Kd.R_lt (pY44))) (Kd.R_lt (pY46))) (below_size (pY37))); have n4_ := Aside0.mk (Kd.S_lower (Kd.S_new' (Kd.S_new' (Kd.S_new' ho1 (Kd.R_lt (pY44))) (Kd.S_lt (pY45))) (Kd.R_lt (pY46))) (below_size (pY37))); have n5_ := Aside0.mk (blk_below (g := gb101) (o := .cells #[.slice A0_0 l0_0.length c0_0, .slice A0_1 l0_1.length c0_1] 26 (0, 0)) (pY40) hb); have n6_ := Aside0.mk (below_step (pY37) hb); clear HO105; clear HO108; clear HO111; clear BK101; clear HB; have HO105 := n0_; have HO108 := n1_; have HO111 := n2_; have HO114 := n3_; have HO117 := n4_; have BK101 := n5_; have HB := n6_; clear n0_ n1_ n2_ n3_ n4_ n5_ n6_; (try clear hb); (try clear hb2); (try clear hk); (try clear hi); (try clear ho0); (try clear ho1)) | ((with_reducible refine gate_dst (N := 5) rfl ?_); refine box_event ?hg (N := 5) ?hd (cs := #[.slice none 0 0, .slice none 0 0]) (t := 31) ?hr ?_; (case hd => rfl); (case hg => rfl); (case hr => first | (go_simp; done) | (go_simp; rfl)); intro gb118 hg w129 hbox hb; have n0_ := Aside0.mk (Kd.R_below (pY44) hb); have n1_ := Aside0.mk (Kd.S_below (pY45) hb); have n2_ := Aside0.mk (Kd.R_below (pY46) hb); have n3_ := Aside0.mk (Kd.R_below (pY47) hb); have n4_ := Aside0.mk (Kd.S_below (pY48) hb); have n5_ := Aside0.mk (blk_below (g := gb101) (o := .cells #[.slice A0_0 l0_0.length c0_0, .slice A0_1 l0_1.length c0_1] 26 (0, 0)) (pY40) hb); have n6_ := Aside0.mk (below_step (pY37) hb); have n7_ := Aside0.mk (hbox); have n8_ := Aside0.mk ((pY27 : w.heap.size ≤ gb118)); have n9_ := Aside0.mk ((pY27 : w.heap.size ≤ gb118)); have n10_ := Aside0.mk ((pY19 : gb101 ≠ gb118)); have n11_ := Aside0.mk ((pY20 : gb118 ≠ gb101)); clear HO105; clear HO108; clear HO111; clear HO114; clear HO117; clear BK101; clear HB; have HO105 := n0_; have HO108 := n1_; have HO111 := n2_; have HO114 := n3_; have HO117 := n4_; have BK101 := n5_; have HB := n6_; have BK118 := n7_; have GW118 := n8_; have GE118 := n9_; have NB101_118 := n10_; have NB118_101 := n11_; clear n0_ n1_ n2_ n3_ n4_ n5_ n6_ n7_ n8_ n9_ n10_ n11_; clear hb hbox hg; obtain ⟨Ao130, co130, eo130⟩ := Kd.R_slice HO114.out; subst eo130; have hnb131 := NB118_101.out; have hnc131 := NB101_118.out; have hcz132_0 : w129.cell? ⟨gb118, 0, none⟩ = some (.slice none 0 0) := (blk_cell BK118.out 0).trans rfl; have hcz132_1 : w129.cell? ⟨gb118, 1, none⟩ = some (.slice none 0 0) := (blk_cell BK118.out 1).trans rfl; have hfz132_0 := blk_frozen BK118.out 0; have hfz132_1 := blk_frozen BK118.out 1; obtain ⟨Ao133, co133, eo133⟩ := Kd.S_slice HO117.out; subst eo133) | ((with_reducible refine gate_callee (f := 43) rfl ?_); refine goesL_ (some 22) rfl rfl Try.func43 (by kernel_rfl) rfl #[.agg #[.slice Ao130 t112.length co130, .slice Ao133 t115.length co133]] rfl (pY38) ?_; (with_reducible refine (impl_ShareMoves.calls k _ _ t112 _ _ t115 t119 _ ?side1 ?side2 ?side3 ?side4 A10.out).mono ?_); (case side1 => refine (Kd.R_reads' (e := 9) (base := w.heap.size) (ok := fun k_ => ((True ∧ some k_ ≠ (.slice Ao124 t103.length co124 : Value).ownBlock) ∧ some k_ ≠ (v110 : Value).ownBlock)) (n := t112.length) (c := co130) ?_).2.2; exact (pY9)); (case side2 => exact (Kd.R_reads' HO114.out).2.1); (case side3 => refine (Kd.S_reads' (e := 56) (base := w.heap.size) (ok := fun k_ => (((some k_ ≠ (.slice Ao130 t112.length co130 : Value).ownBlock ∧ some k_ ≠ (.slice Ao124 t103.length co124 : Value).ownBlock) ∧ some k_ ≠ (.slice Ao125 t106.length co125 : Value).ownBlock) ∧ some k_ ≠ (v110 : Value).ownBlock)) (n := t115.length) (c := co133) ?_).2.2; exact (by (with_reducible repeat (first | apply Kd.S_alloc | apply Kd.S_drewN | apply Kd.S_drew)); exact (Kd.S_mono (Kd.S_far (p := ⟨gb118, 1, none⟩) (Kd.S_far (p := ⟨gb118, 0, none⟩) (Kd.S_types HO117.out BK118.out (by decide)) (fun _ hk => hk.2) (.slice Ao130 t112.length co130)) (fun _ hk => hk.2) (.slice Ao133 t115.length co133)) (fun _ h_ => h_.1)))); (case side4 => exact (Kd.S_reads' HO117.out).2.1); rintro e w134 ⟨v120, rfl, ho0, hb⟩; refine ⟨_, rfl, ?_⟩; have n0_ := Aside0.mk (Kd.R_elder' (by (with_reducible repeat (first | apply Kd.R_alloc | apply Kd.R_drewN | apply Kd.R_drew)); exact (Kd.R_mono (Kd.R_far (p := ⟨gb118, 1, none⟩) (Kd.R_far (p := ⟨gb118, 0, none⟩) (Kd.R_types HO105.out BK118.out (by decide)) (fun _ hk => hk.2) (.slice Ao130 t112.length co130)) (fun _ hk => hk.2) (.slice Ao133 t115.length co133)) (fun _ h_ => h_.1))) (Kd.R_base ho0) hb); have n1_ := Aside0.mk (Kd.S_elder' (by (with_reducible repeat (first | apply Kd.S_alloc | apply Kd.S_drewN | apply Kd.S_drew)); exact (Kd.S_mono (Kd.S_far (p := ⟨gb118, 1, none⟩) (Kd.S_far (p := ⟨gb118, 0, none⟩) (Kd.S_types HO108.out BK118.out (by decide)) (fun _ hk => hk.2) (.slice Ao130 t112.length co130)) (fun _ hk => hk.2) (.slice Ao133 t115.length co133)) (fun _ h_ => h_.1))) (Kd.R_base ho0) hb); have n2_ := Aside0.mk (Kd.R_elder' (by (with_reducible repeat (first | apply Kd.R_alloc | apply Kd.R_drewN | apply Kd.R_drew)); exact (Kd.R_mono (Kd.R_far (p := ⟨gb118, 1, none⟩) (Kd.R_far (p := ⟨gb118, 0, none⟩) (Kd.R_types HO111.out BK118.out (by decide)) (fun _ hk => hk.2) (.slice Ao130 t112.length co130)) (fun _ hk => hk.2) (.slice Ao133 t115.length co133)) (fun _ h_ => h_.1))) (Kd.R_base ho0) hb); have n3_ := Aside0.mk (Kd.R_elder' (pY9) (Kd.R_base ho0) hb); have n4_ := Aside0.mk (Kd.S_elder' (by (with_reducible repeat (first | apply Kd.S_alloc | apply Kd.S_drewN | apply Kd.S_drew)); exact (Kd.S_mono (Kd.S_far (p := ⟨gb118, 1, none⟩) (Kd.S_far (p := ⟨gb118, 0, none⟩) (Kd.S_types HO117.out BK118.out (by decide)) (fun _ hk => hk.2) (.slice Ao130 t112.length co130)) (fun _ hk => hk.2) (.slice Ao133 t115.length co133)) (fun _ h_ => h_.1))) (Kd.R_base ho0) hb); have n5_ := Aside0.mk (Kd.R_lower (Kd.R_new' (Kd.R_new' (Kd.R_new' ho0 (Kd.R_lt (by (with_reducible repeat (first | apply Kd.R_alloc | apply Kd.R_drewN | apply Kd.R_drew)); exact (Kd.R_mono (Kd.R_far (p := ⟨gb118, 1, none⟩) (Kd.R_far (p := ⟨gb118, 0, none⟩) (Kd.R_types HO105.out BK118.out (by decide)) (fun _ hk => hk.2) (.slice Ao130 t112.length co130)) (fun _ hk => hk.2) (.slice Ao133 t115.length co133)) (fun _ h_ => h_.1))))) (Kd.R_lt (by (with_reducible repeat (first | apply Kd.R_alloc | apply Kd.R_drewN | apply Kd.R_drew)); exact (Kd.R_mono (Kd.R_far (p := ⟨gb118, 1, none⟩) (Kd.R_far (p := ⟨gb118, 0, none⟩) (Kd.R_types HO111.out BK118.out (by decide)) (fun _ hk => hk.2) (.slice Ao130 t112.length co130)) (fun _ hk => hk.2) (.slice Ao133 t115.length co133)) (fun _ h_ => h_.1))))) (Kd.R_lt (pY9))) (below_size (pY34))); have n6_ := Aside0.mk (blk_below (g := gb101) (o := .cells #[.slice A0_0 l0_0.length c0_0, .slice A0_1 l0_1.length c0_1] 26 (0, 0)) (pY5) hb); have n7_ := Aside0.mk (blk_below (g := gb118) (o := .cells #[.slice Ao130 t112.length co130, .slice Ao133 t115.length co133] 31 (0, 0)) (by (with_reducible repeat (first | refine blk_drewN ?_ _ | refine blk_drew ?_ | refine blk_alloc ?_ _)); refine blk_put (cs := #[.slice Ao130 t112.length co130, .slice none 0 0]) ?_ 1 _ rfl; (with_reducible repeat (first | refine blk_drewN ?_ _ | refine blk_drew ?_ | refine blk_alloc ?_ _)); refine blk_put (cs := #[.slice none 0 0, .slice none 0 0]) ?_ 0 _ rfl; (with_reducible repeat (first | refine blk_drewN ?_ _ | refine blk_drew ?_ | refine blk_alloc ?_ _)); exact BK118.out) hb); have n8_ := Aside0.mk (below_step (pY34) hb); clear HO105; clear HO108; clear HO111; clear HO114; clear HO117; clear BK101; clear BK118; clear HB; have HO105 := n0_; have HO108 := n1_; have HO111 := n2_; have HO114 := n3_; have HO117 := n4_; have HO121 := n5_; have BK101 := n6_; have BK118 := n7_; have HB := n8_; clear n0_ n1_ n2_ n3_ n4_ n5_ n6_ n7_ n8_; (try clear hb); (try clear hb2); (try clear hk); (try clear hi); (try clear ho0); obtain ⟨Ao135, co135, eo135⟩ := Kd.R_slice HO121.out; subst eo135; obtain ⟨Ao136, co136, eo136⟩ := Kd.R_slice HO111.out; subst eo136) | ((with_reducible refine gate_callee (f := 34) rfl ?_); refine goesL_ (some 25) rfl rfl Try.func34 (by kernel_rfl) rfl #[.slice Ao135 t119.length co135, .slice Ao136 t109.length co136] rfl (pY38) ?_; (with_reducible refine (laws_eqStringS.calls k _ _ t119 _ _ t109 false _ ?side1 ?side2 ?side3 ?side4 A11.out).mono ?_); (case side1 => exact pC (Kd.R_reads' HO121.out).2.2); (case side2 => exact (Kd.R_reads' HO121.out).2.1); (case side3 => exact pC (Kd.R_reads' HO111.out).2.2); (case side4 => exact (Kd.R_reads' HO111.out).2.1); rintro e w' ⟨rfl, ⟨nd, rfl⟩⟩; refine ⟨_, rfl, ?_⟩))
   go_ret
   exact ⟨by first | rfl | (simp [errW_none, errW_some] <;> rfl) | (simp [*, errW_none, errW_some] <;> rfl), pY34⟩
end Go.Proofs.Ytaofjgnhapnndaa.Q
namespace Go.Proofs.Ytaofjgnhapnndaa.Q
open Go.RowKit Go.Proofs.YtaofjgnhapnndaaW.PrintWords Go.Proofs.YtaofjgnhapnndaaW.PrintLast Go.Proofs.YtaofjgnhapnndaaW.PrintMore
set_option linter.unusedVariables false
set_option linter.unusedSimpArgs false
theorem FnExactShareMoves_pure (ts : List ByteArray) (bs : List LB) (hi : Inok ts bs) : ∃ k, laws_FnExactShareMoves.f k ts bs = some true := by
  refine Ev.rounds (g := fun k => laws_FnExactShareMoves.f k ts bs) ?_
  unfold laws_FnExactShareMoves.f
  refine counted hi fun a ha h0 h => ?_
  have hl : (movesB ts (bs.map toB)).length ≤ 1048576 := Nat.le_trans (movesB_len _ _) (by rw [List.length_map]; exact h.lb)
  have hq : Ev (fun k => laws_eqStringS.f k (movesB ts (bs.map toB)) (movesB ts (bs.map toB))) true := eqStringS_ev _ (by omega)
  have hg := impl_ShareMoves_ev ts (bs.map toB) h.ts' h.bs' h.bok'
  refine Ev.bind h.to_ev (Ev.bind (spec_ShareMoves_ev _ _ h.ts' h.bs' h.bok') (Ev.bind h.to_ev (Ev.bind hg (Ev.bind hq (Ev.pos rfl ?_)))))
  refine unturned h (Ev.bind (markBook_ev ts bs 1 (by omega) (by omega) (wBook_of ha h0)) (Ev.neg (by omega) (Ev.bind hq ?_)))
  refine Ev.step (fun k => laws_FnExactShareMoves.j0.eq_2 _ _ _ _ _ k) (Ev.neg (by simp) ?_)
  exact marked_held hl (Ev.bind h.to_ev (Ev.bind hg (Ev.bind hq (Ev.pos rfl (held_still hl)))))
end Go.Proofs.Ytaofjgnhapnndaa.Q
