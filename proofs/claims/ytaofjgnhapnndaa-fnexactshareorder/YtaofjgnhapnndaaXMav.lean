/- Texts that the row needs: words on memory and rows, the contracts of the functions it reaches, and the plain lemmas on what they compute. -/
import Derived.Below
import Derived.Deep.Draws
import Derived.Deep.AppendLies
import Derived.Maps.AppendAt
import Derived.OwnWalk
import Derived.Laws.BytesArg
import Derived.Laws.MakeOwn
import Derived.Laws.OwnMore
import Derived.Deep.OwnRows
import Derived.Tactics
import Derived.Lib.ConvBytes
import Derived.Laws.Slices
import Derived.WalkKit
import Derived.KernelRfl
import Derived.RowKit3
import Derived.Deep.LoopGhost
import Derived.Deep.QuietTactic
import Derived.BigQuiet
import Derived.WideLaws
import Derived.Deep.DeepCutAuto
import Derived.Deep.CutBlock
import Derived.Deep.RegionHeld3
import Derived.Laws.Rows
import Derived.Lib.AppendStr
import Derived.ArgAppend
import Derived.Laws.IdiomCopy
import Derived.RowKit
import Derived.OrdersHeld
import Derived.Laws.BitsLemmas
import Derived.Laws.StructEq
import Derived.Test.YtaofjgnhapnndaaProg
import Derived.WalkLawsBesides
import Derived.Shelf.Abstract
import Derived.Test.YtaofjgnhapnndaaXMaa
import Derived.Test.YtaofjgnhapnndaaXMab
import Derived.Test.YtaofjgnhapnndaaXMac
import Derived.Test.YtaofjgnhapnndaaXMad
import Derived.Test.YtaofjgnhapnndaaXMae
import Derived.Test.YtaofjgnhapnndaaXMaf
import Derived.Test.YtaofjgnhapnndaaXMag
import Derived.Test.YtaofjgnhapnndaaXMah
import Derived.Test.YtaofjgnhapnndaaXMai
import Derived.Test.YtaofjgnhapnndaaXMaj
import Derived.Test.YtaofjgnhapnndaaXMak
import Derived.Test.YtaofjgnhapnndaaXMao
import Derived.Test.YtaofjgnhapnndaaXMat
import Derived.Test.YtaofjgnhapnndaaXMau
open Go.Proofs.YtaofjgnhapnndaaFM
namespace Go.Proofs.Ytaofjgnhapnndaa.Q
open Go.RowKit Go.Proofs.YtaofjgnhapnndaaW.PrintWords Go.Proofs.YtaofjgnhapnndaaW.PrintLast Go.Proofs.YtaofjgnhapnndaaW.PrintMore
set_option linter.unusedVariables false
set_option linter.unusedSimpArgs false
mutual
def impl_ShareOrder.l0 : Nat → List ByteArray → List ByteArray → List (S56) → Option (List ByteArray × Bool)
 | 0, _, _, _ => none
 | k + 1, x4, x102000, x102001 => if (x4.length : Int) < (x102001.length : Int) then (impl_ShareOrder.l1 k x4 (x4.length : Int) x102001 (x102001.length : Int) 0 x102000 x102001) else (some (x4, true))
def impl_ShareOrder.l1 : Nat → List ByteArray → Int → List (S56) → Int → Int → List ByteArray → List (S56) → Option (List ByteArray × Bool)
 | 0, _, _, _, _, _, _, _ => none
 | k + 1, x4, x5, x21, x22, x23, x102000, x102001 => if x23 < x22 then (if 0 ≤ x23 then (if x23 < (x21.length : Int) then ((slices_Contains_string_string.f k x4 ((rd_T56 x21 x23).f0)).bind fun t108 => (if t108 = true then (impl_ShareOrder.l1 k x4 x5 x21 x22 (wrap64 (x23 + 1)) x102000 x102001) else ((impl_ShareBook_can.f k x102000 x102001 x23 x4).bind fun t109 => (if t109 = true then (if x4.length < 8796093022208 then ((some (x4 ++ [(rd_T56 x21 x23).f0] : List ByteArray)).bind fun y110 => (if (y110.length : Int) = x5 then (some (([] : List ByteArray), false)) else (impl_ShareOrder.l0 k y110 x102000 x102001))) else (none)) else (impl_ShareOrder.l1 k x4 x5 x21 x22 (wrap64 (x23 + 1)) x102000 x102001))))) else (none)) else (none)) else (if (x4.length : Int) = x5 then (some (([] : List ByteArray), false)) else (impl_ShareOrder.l0 k x4 x102000 x102001))
end
def impl_ShareOrder.f (k : Nat) (l0_0 : List ByteArray) (l0_1 : List (S56)) : Option (List ByteArray × Bool) := (impl_ShareBookOk.f k l0_0 l0_1).bind fun t102 => (if t102 = true then (impl_ShareOrder.l0 k (([] : List ByteArray)) l0_0 l0_1) else (some (([] : List ByteArray), false)))
set_option maxHeartbeats 8000000 in
set_option maxRecDepth 100000 in
theorem impl_ShareOrder.calls (k : Nat) (A0_0 : Option Addr) (c0_0 : Nat) (l0_0 : List ByteArray) (A0_1 : Option Addr) (c0_1 : Nat) (l0_1 : List (S56)) (r1 : List ByteArray) (r2 : Bool) (w : World) (hr0_0 : Kd.C Kd.string w A0_0 l0_0.length l0_0) (hc0_0 : l0_0.length ≤ c0_0) (hr0_1 : Kd.C k56 w A0_1 l0_1.length l0_1) (hc0_1 : l0_1.length ≤ c0_1) (h : impl_ShareOrder.f k l0_0 l0_1 = some (r1, r2)) :
  Calls Try.prog 45 #[.agg #[.slice A0_0 l0_0.length c0_0, .slice A0_1 l0_1.length c0_1]] w fun e w' => ∃ v0_ : Value, e = .returned (.tuple #[v0_, .bool r2]) ∧ Kd.R Kd.string 9 w' w.heap.size (fun _ => True) v0_ r1 ∧ Below w.heap.size w w' := by
 have hu31 := Try.underlying31
 have hu56 := Try.underlying56
 have HR0_0 := Aside0.mk hr0_0
 have HC0_0 := Aside0.mk hc0_0
 clear hr0_0 hc0_0
 have HR0_1 := Aside0.mk hr0_1
 have HC0_1 := Aside0.mk hc0_1
 clear hr0_1 hc0_1
 have HB := Aside0.mk (Below.refl w.heap.size w)
 have H : ((impl_ShareBookOk.f k l0_0 l0_1).bind fun t102 => (if t102 = true then (impl_ShareOrder.l0 k (([] : List ByteArray)) l0_0 l0_1) else (some (([] : List ByteArray), false)))) = some (r1, r2) := h
 clear h
 replace H := Option.bind_eq_some_iff.mp H
 obtain ⟨t102, A20, H⟩ := H
 replace H : (if t102 = true then (impl_ShareOrder.l0 k (([] : List ByteArray)) l0_0 l0_1) else (some (([] : List ByteArray), false))) = some (r1, r2) := H
 have A2 := Aside0.mk A20
 clear A20
 by_cases c3 : t102 = true
 ·subst c3
  have H1 : (impl_ShareOrder.l0 k (([] : List ByteArray)) l0_0 l0_1) = some (r1, r2) := by rw [if_pos rfl] at H; exact H
  clear H
  have H := H1
  clear H1
  obtain ⟨y103, hy103⟩ : ∃ y_ : List ByteArray, y_ = (([] : List ByteArray)) := ⟨_, rfl⟩
  replace H : (impl_ShareOrder.l0 k y103 l0_0 l0_1) = some (r1, r2) := by first | (rw [hy103]; with_reducible exact H) | (have H2_ := (Option.bind_some _ _).symm.trans H; rw [hy103]; with_reducible exact H2_) | (have H2_ := (Option.bind_some _ _).symm.trans H; with_reducible exact H2_) | with_reducible exact H | (rw [hy103]; exact H) | exact H
  have Ny103 := Aside0.mk hy103
  clear hy103
  have H' := Aside0.mk H
  clear H
  go_enter Try.func45, Try.ntmps45
  go_wp2_with (first | ((with_reducible refine gate_dst (N := 1) rfl ?_); refine box_event ?hg (N := 1) ?hd (cs := #[.slice A0_0 l0_0.length c0_0, .slice A0_1 l0_1.length c0_1]) (t := 31) ?hr ?_; (case hd => rfl); (case hg => rfl); (case hr => first | (go_simp; done) | (go_simp; rfl)); intro gb101 hg w4 hbox hb; have n0_ := Aside0.mk (below_step (pY39) hb); have n1_ := Aside0.mk (hbox); have n2_ := Aside0.mk ((pY36 : w.heap.size ≤ gb101)); have n3_ := Aside0.mk ((pY36 : w.heap.size ≤ gb101)); clear HB; have HB := n0_; have BK101 := n1_; have GW101 := n2_; have GE101 := n3_; clear n0_ n1_ n2_ n3_; clear hb hbox hg; have hcz5_0 : w4.cell? ⟨gb101, 0, none⟩ = some (.slice A0_0 l0_0.length c0_0) := (blk_cell BK101.out 0).trans rfl; have hcz5_1 : w4.cell? ⟨gb101, 1, none⟩ = some (.slice A0_1 l0_1.length c0_1) := (blk_cell BK101.out 1).trans rfl; have hfz5_0 := blk_frozen BK101.out 0; have hfz5_1 := blk_frozen BK101.out 1) | ((with_reducible refine gate_callee (f := 24) rfl ?_); refine goesL_ (some 9) rfl rfl Try.func24 (by kernel_rfl) rfl #[.agg #[.slice A0_0 l0_0.length c0_0, .slice A0_1 l0_1.length c0_1]] rfl (pY38) ?_; (with_reducible refine (impl_ShareBookOk.calls k _ _ l0_0 _ _ l0_1 true _ ?side1 ?side2 ?side3 ?side4 A2.out).mono ?_); (case side1 => exact pC (Kd.C_below HR0_0.out HB.out)); (case side2 => exact HC0_0.out); (case side3 => exact pC (Kd.C_below HR0_1.out HB.out)); (case side4 => exact HC0_1.out); rintro e w6 ⟨rfl, hb⟩; refine ⟨_, rfl, ?_⟩; have n0_ := Aside0.mk (blk_below (g := gb101) (o := .cells #[.slice A0_0 l0_0.length c0_0, .slice A0_1 l0_1.length c0_1] 31 (0, 0)) (pY40) hb); have n1_ := Aside0.mk (below_step (pY37) hb); clear BK101; clear HB; have BK101 := n0_; have HB := n1_; clear n0_ n1_; (try clear hb); (try clear hb2); (try clear hk); (try clear hi)) | ((with_reducible refine gate_dst (N := 11) rfl ?_); refine Kd.R_lit Kd.string _ 9 ?hg (N := 11) ?hd (xs := ([] : List ByteArray)) (inner := []) (ok := fun _ => True) (okp := fun _ => True) ?hr ?hp (fun _ hk => hk) trivial (Below.refl _ _) (Nat.le_refl _) (by simp) ?_; (case hd => rfl); (case hg => rfl); (case hr => first | (go_simp; done) | (go_simp; rfl)); (case hp => exact (Reps.none _ _)); intro v104 w7 ho8 hb hg_ hnew_; clear hg_ hnew_; (first | rw [← Ny103.out] at ho8 | (simp only [Int.reduceToNat] at ho8; rw [← Ny103.out] at ho8)); have n0_ := Aside0.mk (Kd.R_lower ho8 (below_size (pY37))); have n1_ := Aside0.mk (blk_below (g := gb101) (o := .cells #[.slice A0_0 l0_0.length c0_0, .slice A0_1 l0_1.length c0_1] 31 (0, 0)) (pY40) hb); have n2_ := Aside0.mk (below_step (pY37) hb); clear BK101; clear HB; have HO105 := n0_; have BK101 := n1_; have HB := n2_; clear n0_ n1_ n2_; clear hb ho8))
  go_loopg [4] k (fun kq v4 w' => ∃ (x4_1 : List ByteArray), Aside0 (impl_ShareOrder.l0 kq x4_1 l0_0 l0_1 = some (r1, r2)) ∧ Aside0 (kq ≤ k) ∧ Aside0 (Kd.R Kd.string 9 w' w.heap.size (fun _ => True) v4 x4_1) ∧ Aside0 (w'.heap[gb101]? = some (.cells #[(.slice A0_0 l0_0.length c0_0), (.slice A0_1 l0_1.length c0_1)] 31 (0, 0))) ∧ Aside0 (Below w.heap.size w w'))
  case atStart => exact ⟨(y103), H', ⟨Nat.le_refl _⟩, ⟨by (with_reducible repeat (first | apply Kd.R_alloc | apply Kd.R_drewN | apply Kd.R_drew)); exact HO105.out⟩, ⟨by (with_reducible repeat (first | refine blk_drewN ?_ _ | refine blk_drew ?_ | refine blk_alloc ?_ _)); exact BK101.out⟩, ⟨pY37⟩⟩
  case round =>
   clear H'
   try clear c2
   try clear p2
   try clear c3
   try clear c4
   try clear hcz5_0
   try clear hcz5_1
   try clear hfz5_0
   try clear hfz5_1
   obtain ⟨x4_1, HA, HK1, HO_4, BK101, HB⟩ := hrel
   cases gk with
   | zero => exact absurd HA.out (by simp [impl_ShareOrder.l0])
   | succ k1 =>
    have H := HA.out
    clear HA
    simp only [impl_ShareOrder.l0] at H
    by_cases c9 : (x4_1.length : Int) < (l0_1.length : Int)
    ·rw [if_pos c9] at H
     have c9b0 : decide ((x4_1.length : Int) < (l0_1.length : Int)) = true := decide_eq_true c9
     have c9b1 : decide (x4_1.length < l0_1.length) = true := decide_eq_true (Int.ofNat_lt.mp c9)
     clear c9
     have H' := Aside0.mk H
     clear H
     obtain ⟨Ao10, co10, eo10⟩ := Kd.R_slice HO_4.out
     subst eo10
     have hcz11_0 : wr.cell? ⟨gb101, 0, none⟩ = some (.slice A0_0 l0_0.length c0_0) := (blk_cell BK101.out 0).trans rfl
     have hcz11_1 : wr.cell? ⟨gb101, 1, none⟩ = some (.slice A0_1 l0_1.length c0_1) := (blk_cell BK101.out 1).trans rfl
     have hfz11_0 := blk_frozen BK101.out 0
     have hfz11_1 := blk_frozen BK101.out 1
     go_wp2
     go_loopg [4, 23] k1 (fun kq v4 v23 w' => ∃ (x4_2 : List ByteArray) (x23_2 : Int), v23 = .int .i64 x23_2 ∧ Aside0 (impl_ShareOrder.l1 kq x4_2 (x4_1.length : Int) l0_1 (l0_1.length : Int) x23_2 l0_0 l0_1 = some (r1, r2)) ∧ Aside0 (kq ≤ k1) ∧ Aside0 (Kd.R Kd.string 9 w' w.heap.size (fun _ => True) v4 x4_2) ∧ Aside0 (w'.heap[gb101]? = some (.cells #[(.slice A0_0 l0_0.length c0_0), (.slice A0_1 l0_1.length c0_1)] 31 (0, 0))) ∧ Aside0 (Below w.heap.size w w'))
     case atStart => exact ⟨(x4_1), (0), (pY59), H', ⟨Nat.le_refl _⟩, ⟨by (with_reducible repeat (first | apply Kd.R_alloc | apply Kd.R_drewN | apply Kd.R_drew)); exact HO_4.out⟩, ⟨by (with_reducible repeat (first | refine blk_drewN ?_ _ | refine blk_drew ?_ | refine blk_alloc ?_ _)); exact BK101.out⟩, ⟨pY37⟩⟩
     case round =>
      clear H'
      try clear c2
      try clear p2
      try clear c3
      try clear c4
      try clear c9
      try clear c9b0
      try clear c9b1
      try clear hcz11_0
      try clear hcz11_1
      try clear hcz5_0
      try clear hcz5_1
      try clear hfz11_0
      try clear hfz11_1
      try clear hfz5_0
      try clear hfz5_1
      try clear p2
      obtain ⟨x4_2, x23_2, rfl, HA, HK2, HO_4, BK101, HB⟩ := hrel
      cases gk with
      | zero => exact absurd HA.out (by simp [impl_ShareOrder.l1])
      | succ k2 =>
       have H := HA.out
       clear HA
       simp only [impl_ShareOrder.l1] at H
       by_cases c12 : x23_2 < (l0_1.length : Int)
       ·rw [if_pos c12] at H
        have c12b0 : decide (x23_2 < (l0_1.length : Int)) = true := decide_eq_true c12
        clear c12
        by_cases c13 : 0 ≤ x23_2
        ·rw [if_pos c13] at H
         have c13b0 : decide (0 ≤ x23_2) = true := decide_eq_true c13
         clear c13
         by_cases c14 : x23_2 < (l0_1.length : Int)
         ·rw [if_pos c14] at H
          have c14b0 : decide (x23_2 < (l0_1.length : Int)) = true := decide_eq_true c14
          clear c14
          replace H := Option.bind_eq_some_iff.mp H
          obtain ⟨t108, A150, H⟩ := H
          replace H : (if t108 = true then (impl_ShareOrder.l1 k2 x4_2 (x4_1.length : Int) l0_1 (l0_1.length : Int) (wrap64 (x23_2 + 1)) l0_0 l0_1) else ((impl_ShareBook_can.f k2 l0_0 l0_1 x23_2 x4_2).bind fun t109 => (if t109 = true then (if x4_2.length < 8796093022208 then ((some (x4_2 ++ [(rd_T56 l0_1 x23_2).f0] : List ByteArray)).bind fun y110 => (if (y110.length : Int) = (x4_1.length : Int) then (some (([] : List ByteArray), false)) else (impl_ShareOrder.l0 k2 y110 l0_0 l0_1))) else (none)) else (impl_ShareOrder.l1 k2 x4_2 (x4_1.length : Int) l0_1 (l0_1.length : Int) (wrap64 (x23_2 + 1)) l0_0 l0_1)))) = some (r1, r2) := H
          have A15 := Aside0.mk A150
          clear A150
          by_cases c16 : t108 = true
          ·subst c16
           have H1 : (impl_ShareOrder.l1 k2 x4_2 (x4_1.length : Int) l0_1 (l0_1.length : Int) (wrap64 (x23_2 + 1)) l0_0 l0_1) = some (r1, r2) := by rw [if_pos rfl] at H; exact H
           clear H
           have H := H1
           clear H1
           have H' := Aside0.mk H
           clear H
           have p106 : 0 ≤ (x23_2 : Int) := of_decide_eq_true (pY58)
           have q106 : x23_2 < (l0_1.length : Int) := of_decide_eq_true (pY58)
           obtain ⟨ad106, A106_1, c106_1, A106_2, c106_2, e106, hx106_0, hx106_1, hx106_2, hl106_1, hi106_1, hl106_2, hi106_2⟩ := at_T56 HR0_1.out x23_2 p106 q106
           cases e106
           replace hx106_0 := (HB.out.cell (World.block_lt_of_cell? w _ hx106_0)).trans hx106_0
           replace hx106_1 := (HB.out.cell (World.block_lt_of_cell? w _ hx106_1)).trans hx106_1
           replace hx106_2 := (HB.out.cell (World.block_lt_of_cell? w _ hx106_2)).trans hx106_2
           have HR106_1 := Aside0.mk hi106_1
           have HC106_1 := Aside0.mk hl106_1
           clear hi106_1 hl106_1
           have HR106_2 := Aside0.mk hi106_2
           have HC106_2 := Aside0.mk hl106_2
           clear hi106_2 hl106_2
           replace p106 := eq_true p106
           replace q106 := eq_true q106
           go_wp2_with (first | ((with_reducible refine gate_dst (N := 7) rfl ?_); refine box_event ?hg (N := 7) ?hd (cs := #[.string (⟨#[]⟩ : ByteArray), .slice none 0 0, .slice none 0 0]) (t := 56) ?hr ?_; (case hd => rfl); (case hg => rfl); (case hr => first | (go_simp; done) | (go_simp; rfl)); intro gb107 hg w17 hbox hb; have n0_ := Aside0.mk (Kd.R_below (pY53) hb); have n1_ := Aside0.mk (blk_below (g := gb101) (o := .cells #[.slice A0_0 l0_0.length c0_0, .slice (some ad106) l0_1.length c0_1] 31 (0, 0)) (pY40) hb); have n2_ := Aside0.mk (below_step (pY37) hb); have n3_ := Aside0.mk (hbox); have n4_ := Aside0.mk ((pY27 : w.heap.size ≤ gb107)); have n5_ := Aside0.mk ((pY27 : w.heap.size ≤ gb107)); have n6_ := Aside0.mk ((pY17 : gb101 ≠ gb107)); have n7_ := Aside0.mk ((pY18 : gb107 ≠ gb101)); clear HO_4; clear BK101; clear HB; have HO_4 := n0_; have BK101 := n1_; have HB := n2_; have BK107 := n3_; have GW107 := n4_; have GE107 := n5_; have NB101_107 := n6_; have NB107_101 := n7_; clear n0_ n1_ n2_ n3_ n4_ n5_ n6_ n7_; clear hb hbox hg; have hnb18 := NB107_101.out; have hnc18 := NB101_107.out; have hcz19_0 : w17.cell? ⟨gb107, 0, none⟩ = some (.string (⟨#[]⟩ : ByteArray)) := (blk_cell BK107.out 0).trans rfl; have hcz19_1 : w17.cell? ⟨gb107, 1, none⟩ = some (.slice none 0 0) := (blk_cell BK107.out 1).trans rfl; have hcz19_2 : w17.cell? ⟨gb107, 2, none⟩ = some (.slice none 0 0) := (blk_cell BK107.out 2).trans rfl; have hfz19_0 := blk_frozen BK107.out 0; have hfz19_1 := blk_frozen BK107.out 1; have hfz19_2 := blk_frozen BK107.out 2; obtain ⟨Ao20, co20, eo20⟩ := Kd.R_slice HO_4.out; subst eo20) | ((with_reducible refine gate_callee (f := 81) rfl ?_); refine goesL_ (some 31) rfl rfl Try.func81 (by kernel_rfl) rfl #[.slice Ao20 x4_2.length co20, .string ((rd_T56 l0_1 x23_2).f0)] rfl (pY38) ?_; (with_reducible refine (slices_Contains_string_string.calls k2 _ _ x4_2 ((rd_T56 l0_1 x23_2).f0) true _ ?side1 ?side2 A15.out).mono ?_); (case side1 => refine (Kd.R_reads' (e := 9) (base := w.heap.size) (ok := fun k_ => True) (n := x4_2.length) (c := co20) ?_).2.2; exact (pY4)); (case side2 => exact (Kd.R_reads' HO_4.out).2.1); rintro e w' ⟨rfl, ⟨nd, rfl⟩⟩; refine ⟨_, rfl, ?_⟩))
           go_roundg k2
           case measure => have := HK1.out; have := HK2.out; omega
           case rel => exact ⟨(x4_2), (wrap64 (x23_2 + 1)), (pY59), H', ⟨by have := HK1.out; have := HK2.out; omega⟩, ⟨by (with_reducible repeat (first | apply Kd.R_alloc | apply Kd.R_drewN | apply Kd.R_drew)); exact Kd.R_mono (Kd.R_far (p := ⟨gb107, 2, none⟩) (Kd.R_far (p := ⟨gb107, 1, none⟩) (Kd.R_far (p := ⟨gb107, 0, none⟩) (Kd.R_types HO_4.out BK107.out (by decide)) (fun _ hk => hk.2) (.string ((rd_T56 l0_1 x23_2).f0))) (fun _ hk => hk.2) (.slice A106_1 ((rd_T56 l0_1 x23_2).f1).length c106_1)) (fun _ hk => hk.2) (.slice A106_2 ((rd_T56 l0_1 x23_2).f2).length c106_2)) (fun _ hk => trivial)⟩, ⟨by (with_reducible repeat (first | refine blk_drewN ?_ _ | refine blk_drew ?_ | refine blk_alloc ?_ _)); refine blk_far ?_ NB101_107.out _; (with_reducible repeat (first | refine blk_drewN ?_ _ | refine blk_drew ?_ | refine blk_alloc ?_ _)); refine blk_far ?_ NB101_107.out _; (with_reducible repeat (first | refine blk_drewN ?_ _ | refine blk_drew ?_ | refine blk_alloc ?_ _)); refine blk_far ?_ NB101_107.out _; (with_reducible repeat (first | refine blk_drewN ?_ _ | refine blk_drew ?_ | refine blk_alloc ?_ _)); exact BK101.out⟩, ⟨pY32⟩⟩
          ·replace c16 := Bool.eq_false_iff.mpr c16
           subst c16
           have H1 : ((impl_ShareBook_can.f k2 l0_0 l0_1 x23_2 x4_2).bind fun t109 => (if t109 = true then (if x4_2.length < 8796093022208 then ((some (x4_2 ++ [(rd_T56 l0_1 x23_2).f0] : List ByteArray)).bind fun y110 => (if (y110.length : Int) = (x4_1.length : Int) then (some (([] : List ByteArray), false)) else (impl_ShareOrder.l0 k2 y110 l0_0 l0_1))) else (none)) else (impl_ShareOrder.l1 k2 x4_2 (x4_1.length : Int) l0_1 (l0_1.length : Int) (wrap64 (x23_2 + 1)) l0_0 l0_1))) = some (r1, r2) := by rw [if_neg (show ¬ (false = true) by decide)] at H; exact H
           clear H
           have H := H1
           clear H1
           replace H := Option.bind_eq_some_iff.mp H
           obtain ⟨t109, A210, H⟩ := H
           replace H : (if t109 = true then (if x4_2.length < 8796093022208 then ((some (x4_2 ++ [(rd_T56 l0_1 x23_2).f0] : List ByteArray)).bind fun y110 => (if (y110.length : Int) = (x4_1.length : Int) then (some (([] : List ByteArray), false)) else (impl_ShareOrder.l0 k2 y110 l0_0 l0_1))) else (none)) else (impl_ShareOrder.l1 k2 x4_2 (x4_1.length : Int) l0_1 (l0_1.length : Int) (wrap64 (x23_2 + 1)) l0_0 l0_1)) = some (r1, r2) := H
           have A21 := Aside0.mk A210
           clear A210
           by_cases c22 : t109 = true
           ·subst c22
            have H1 : (if x4_2.length < 8796093022208 then ((some (x4_2 ++ [(rd_T56 l0_1 x23_2).f0] : List ByteArray)).bind fun y110 => (if (y110.length : Int) = (x4_1.length : Int) then (some (([] : List ByteArray), false)) else (impl_ShareOrder.l0 k2 y110 l0_0 l0_1))) else (none)) = some (r1, r2) := by rw [if_pos rfl] at H; exact H
            clear H
            have H := H1
            clear H1
            by_cases c23 : x4_2.length < 8796093022208
            ·rw [if_pos c23] at H
             have LMc23 := Aside0.mk c23
             clear c23
             obtain ⟨y110, hy110⟩ : ∃ y_ : List ByteArray, y_ = (x4_2 ++ [(rd_T56 l0_1 x23_2).f0]) := ⟨_, rfl⟩
             replace H : (if (y110.length : Int) = (x4_1.length : Int) then (some (([] : List ByteArray), false)) else (impl_ShareOrder.l0 k2 y110 l0_0 l0_1)) = some (r1, r2) := by first | (rw [hy110]; with_reducible exact H) | (have H2_ := (Option.bind_some _ _).symm.trans H; rw [hy110]; with_reducible exact H2_) | (have H2_ := (Option.bind_some _ _).symm.trans H; with_reducible exact H2_) | with_reducible exact H | (rw [hy110]; exact H) | exact H
             have Ny110 := Aside0.mk hy110
             clear hy110
             by_cases c24 : (y110.length : Int) = (x4_1.length : Int)
             ·rw [if_pos c24] at H
              have c24b0 : ((y110.length : Int) == (x4_1.length : Int)) = true := beq_iff_eq.mpr c24
              have c24b1 : ((y110.length : Int) != (x4_1.length : Int)) = false := bne_eq_false_iff_eq.mpr c24
              have c24b2 : (y110.length == x4_1.length) = true := by first | simpa using c24 | (simp at c24 ⊢; omega)
              clear c24
              simp only [Option.some.injEq, Prod.mk.injEq] at H
              obtain ⟨rfl, rfl⟩ := H
              have p106 : 0 ≤ (x23_2 : Int) := of_decide_eq_true (pY58)
              have q106 : x23_2 < (l0_1.length : Int) := of_decide_eq_true (pY58)
              obtain ⟨ad106, A106_1, c106_1, A106_2, c106_2, e106, hx106_0, hx106_1, hx106_2, hl106_1, hi106_1, hl106_2, hi106_2⟩ := at_T56 HR0_1.out x23_2 p106 q106
              cases e106
              replace hx106_0 := (HB.out.cell (World.block_lt_of_cell? w _ hx106_0)).trans hx106_0
              replace hx106_1 := (HB.out.cell (World.block_lt_of_cell? w _ hx106_1)).trans hx106_1
              replace hx106_2 := (HB.out.cell (World.block_lt_of_cell? w _ hx106_2)).trans hx106_2
              have HR106_1 := Aside0.mk hi106_1
              have HC106_1 := Aside0.mk hl106_1
              clear hi106_1 hl106_1
              have HR106_2 := Aside0.mk hi106_2
              have HC106_2 := Aside0.mk hl106_2
              clear hi106_2 hl106_2
              replace p106 := eq_true p106
              replace q106 := eq_true q106
              go_wp2_with (first | ((with_reducible refine gate_dst (N := 7) rfl ?_); refine box_event ?hg (N := 7) ?hd (cs := #[.string (⟨#[]⟩ : ByteArray), .slice none 0 0, .slice none 0 0]) (t := 56) ?hr ?_; (case hd => rfl); (case hg => rfl); (case hr => first | (go_simp; done) | (go_simp; rfl)); intro gb107 hg w25 hbox hb; have n0_ := Aside0.mk (Kd.R_below (pY53) hb); have n1_ := Aside0.mk (blk_below (g := gb101) (o := .cells #[.slice A0_0 l0_0.length c0_0, .slice (some ad106) l0_1.length c0_1] 31 (0, 0)) (pY40) hb); have n2_ := Aside0.mk (below_step (pY37) hb); have n3_ := Aside0.mk (hbox); have n4_ := Aside0.mk ((pY27 : w.heap.size ≤ gb107)); have n5_ := Aside0.mk ((pY27 : w.heap.size ≤ gb107)); have n6_ := Aside0.mk ((pY17 : gb101 ≠ gb107)); have n7_ := Aside0.mk ((pY18 : gb107 ≠ gb101)); clear HO_4; clear BK101; clear HB; have HO_4 := n0_; have BK101 := n1_; have HB := n2_; have BK107 := n3_; have GW107 := n4_; have GE107 := n5_; have NB101_107 := n6_; have NB107_101 := n7_; clear n0_ n1_ n2_ n3_ n4_ n5_ n6_ n7_; clear hb hbox hg; have hnb26 := NB107_101.out; have hnc26 := NB101_107.out; have hcz27_0 : w25.cell? ⟨gb107, 0, none⟩ = some (.string (⟨#[]⟩ : ByteArray)) := (blk_cell BK107.out 0).trans rfl; have hcz27_1 : w25.cell? ⟨gb107, 1, none⟩ = some (.slice none 0 0) := (blk_cell BK107.out 1).trans rfl; have hcz27_2 : w25.cell? ⟨gb107, 2, none⟩ = some (.slice none 0 0) := (blk_cell BK107.out 2).trans rfl; have hfz27_0 := blk_frozen BK107.out 0; have hfz27_1 := blk_frozen BK107.out 1; have hfz27_2 := blk_frozen BK107.out 2; obtain ⟨Ao28, co28, eo28⟩ := Kd.R_slice HO_4.out; subst eo28) | ((with_reducible refine gate_callee (f := 81) rfl ?_); refine goesL_ (some 31) rfl rfl Try.func81 (by kernel_rfl) rfl #[.slice Ao28 x4_2.length co28, .string ((rd_T56 l0_1 x23_2).f0)] rfl (pY38) ?_; (with_reducible refine (slices_Contains_string_string.calls k2 _ _ x4_2 ((rd_T56 l0_1 x23_2).f0) false _ ?side1 ?side2 A15.out).mono ?_); (case side1 => refine (Kd.R_reads' (e := 9) (base := w.heap.size) (ok := fun k_ => True) (n := x4_2.length) (c := co28) ?_).2.2; exact (pY4)); (case side2 => exact (Kd.R_reads' HO_4.out).2.1); rintro e w' ⟨rfl, ⟨nd, rfl⟩⟩; refine ⟨_, rfl, ?_⟩; have hcz29_0 : w25.cell? ⟨gb101, 0, none⟩ = some (.slice A0_0 l0_0.length c0_0) := (blk_cell BK101.out 0).trans rfl; have hcz29_1 : w25.cell? ⟨gb101, 1, none⟩ = some (.slice (some ad106) l0_1.length c0_1) := (blk_cell BK101.out 1).trans rfl; have hfz29_0 := blk_frozen BK101.out 0; have hfz29_1 := blk_frozen BK101.out 1) | (go_at_call 85; (with_reducible refine (impl_ShareBook_can.calls k2 _ _ l0_0 _ _ l0_1 x23_2 _ _ x4_2 true _ ?side1 ?side2 ?side3 ?side4 ?side5 ?side6 A21.out).mono ?_); (case side1 => exact Kd.C_below HR0_0.out (pY32)); (case side2 => exact HC0_0.out); (case side3 => exact Kd.C_below HR0_1.out (pY32)); (case side4 => exact HC0_1.out); (case side5 => refine (Kd.R_reads' (e := 9) (base := w.heap.size) (ok := fun k_ => True) (n := x4_2.length) (c := co28) ?_).2.2; exact (pY4)); (case side6 => exact (Kd.R_reads' HO_4.out).2.1); rintro e w30 ⟨rfl, hb⟩; have n0_ := Aside0.mk (Kd.R_below (pY4) hb); have n1_ := Aside0.mk (blk_below (g := gb101) (o := .cells #[.slice A0_0 l0_0.length c0_0, .slice (some ad106) l0_1.length c0_1] 31 (0, 0)) (pY3) hb); have n2_ := Aside0.mk (blk_below (g := gb107) (o := .cells #[.string ((rd_T56 l0_1 x23_2).f0), .slice A106_1 ((rd_T56 l0_1 x23_2).f1).length c106_1, .slice A106_2 ((rd_T56 l0_1 x23_2).f2).length c106_2] 56 (0, 0)) (pY2) hb); have n3_ := Aside0.mk (below_step (pY32) hb); clear HO_4; clear BK101; clear BK107; clear HB; have HO_4 := n0_; have BK101 := n1_; have BK107 := n2_; have HB := n3_; clear n0_ n1_ n2_ n3_; (try clear hb); (try clear hb2); (try clear hk); (try clear hi); have hcz31_0 : w30.cell? ⟨gb107, 0, none⟩ = some (.string ((rd_T56 l0_1 x23_2).f0)) := (blk_cell BK107.out 0).trans rfl; have hcz31_1 : w30.cell? ⟨gb107, 1, none⟩ = some (.slice A106_1 ((rd_T56 l0_1 x23_2).f1).length c106_1) := (blk_cell BK107.out 1).trans rfl; have hcz31_2 : w30.cell? ⟨gb107, 2, none⟩ = some (.slice A106_2 ((rd_T56 l0_1 x23_2).f2).length c106_2) := (blk_cell BK107.out 2).trans rfl; have hfz31_0 := blk_frozen BK107.out 0; have hfz31_1 := blk_frozen BK107.out 1; have hfz31_2 := blk_frozen BK107.out 2) | ((with_reducible refine gate_builtin (b := .append) (xs := #[.tmp 39, .tmp 42]) rfl ?_); at_builtin; refine Kd.R_append Kd.string (w0 := w) w.heap.size rfl (.tmp 39) (.tmp 42) 23 9 (.string ⟨#[]⟩) 16 rfl Try.underlying23 info9 rfl (by decide) (by omega) (.slice Ao28 x4_2.length co28) x4_2 ((rd_T56 l0_1 x23_2).f0) [.string ((rd_T56 l0_1 x23_2).f0)] (fun _ => True) (fun _ => False) rfl rfl ?aP (fun _ hk => hk.elim) ?aF ?aO ?aB ?aS ?aL ?_; (case aP => exact rfl); (case aB => exact (pY32)); (case aF => exact (fun _ _ => trivial)); (case aO => exact (pY53)); (case aS => exact (below_size (pY32))); (case aL => have := LMc23.out; omega); intro v111 w32 ho hb hg hat; rw [← Ny110.out] at ho; have n0_ := Aside0.mk (blk_grown (g := gb101) (o := .cells #[.slice A0_0 l0_0.length c0_0, .slice (some ad106) l0_1.length c0_1] 31 (0, 0)) (pY40) hg (Kd.R_ne HO_4.out BK101.out (by decide))); have n1_ := Aside0.mk (blk_grown (g := gb107) (o := .cells #[.string ((rd_T56 l0_1 x23_2).f0), .slice A106_1 ((rd_T56 l0_1 x23_2).f1).length c106_1, .slice A106_2 ((rd_T56 l0_1 x23_2).f2).length c106_2] 56 (0, 0)) (by (with_reducible repeat (first | refine blk_drewN ?_ _ | refine blk_drew ?_ | refine blk_alloc ?_ _)); exact BK107.out) hg (Kd.R_ne HO_4.out BK107.out (by decide))); have n2_ := Aside0.mk (hb); have n3_ := Aside0.mk (ho); clear BK101; clear BK107; clear HB; clear HO_4; have BK101 := n0_; have BK107 := n1_; have HB := n2_; have HO112 := n3_; clear n0_ n1_ n2_ n3_; clear ho hb hg hat; obtain ⟨Ao33, co33, eo33⟩ := Kd.R_slice HO112.out; subst eo33))
              go_ret2
              exact ⟨_, by first | rfl | (simp [errW_none, errW_some] <;> rfl) | (simp [*, errW_none, errW_some] <;> rfl), by first | exact Kd.R_nil _ _ _ _ _ | exact Kd.N_nil _ _ _ _ _ | exact Kd.V_nil _ _ _ _ _ | exact Kd.Q_nil _ _ _ _ _ | exact Kd.S_nil _ _ _ _ _, pY32⟩
             ·rw [if_neg c24] at H
              have c24b0 : ((y110.length : Int) == (x4_1.length : Int)) = false := beq_eq_false_iff_ne.mpr c24
              have c24b1 : ((y110.length : Int) != (x4_1.length : Int)) = true := bne_iff_ne.mpr c24
              have c24b2 : (y110.length == x4_1.length) = false := by first | simpa using c24 | (simp at c24 ⊢; omega)
              have H' := Aside0.mk H
              clear H
              have p106 : 0 ≤ (x23_2 : Int) := of_decide_eq_true (pY58)
              have q106 : x23_2 < (l0_1.length : Int) := of_decide_eq_true (pY58)
              obtain ⟨ad106, A106_1, c106_1, A106_2, c106_2, e106, hx106_0, hx106_1, hx106_2, hl106_1, hi106_1, hl106_2, hi106_2⟩ := at_T56 HR0_1.out x23_2 p106 q106
              cases e106
              replace hx106_0 := (HB.out.cell (World.block_lt_of_cell? w _ hx106_0)).trans hx106_0
              replace hx106_1 := (HB.out.cell (World.block_lt_of_cell? w _ hx106_1)).trans hx106_1
              replace hx106_2 := (HB.out.cell (World.block_lt_of_cell? w _ hx106_2)).trans hx106_2
              have HR106_1 := Aside0.mk hi106_1
              have HC106_1 := Aside0.mk hl106_1
              clear hi106_1 hl106_1
              have HR106_2 := Aside0.mk hi106_2
              have HC106_2 := Aside0.mk hl106_2
              clear hi106_2 hl106_2
              replace p106 := eq_true p106
              replace q106 := eq_true q106
              go_wp2_with (first | ((with_reducible refine gate_dst (N := 7) rfl ?_); refine box_event ?hg (N := 7) ?hd (cs := #[.string (⟨#[]⟩ : ByteArray), .slice none 0 0, .slice none 0 0]) (t := 56) ?hr ?_; (case hd => rfl); (case hg => rfl); (case hr => first | (go_simp; done) | (go_simp; rfl)); intro gb107 hg w34 hbox hb; have n0_ := Aside0.mk (Kd.R_below (pY53) hb); have n1_ := Aside0.mk (blk_below (g := gb101) (o := .cells #[.slice A0_0 l0_0.length c0_0, .slice (some ad106) l0_1.length c0_1] 31 (0, 0)) (pY40) hb); have n2_ := Aside0.mk (below_step (pY37) hb); have n3_ := Aside0.mk (hbox); have n4_ := Aside0.mk ((pY27 : w.heap.size ≤ gb107)); have n5_ := Aside0.mk ((pY27 : w.heap.size ≤ gb107)); have n6_ := Aside0.mk ((pY17 : gb101 ≠ gb107)); have n7_ := Aside0.mk ((pY18 : gb107 ≠ gb101)); clear HO_4; clear BK101; clear HB; have HO_4 := n0_; have BK101 := n1_; have HB := n2_; have BK107 := n3_; have GW107 := n4_; have GE107 := n5_; have NB101_107 := n6_; have NB107_101 := n7_; clear n0_ n1_ n2_ n3_ n4_ n5_ n6_ n7_; clear hb hbox hg; have hnb35 := NB107_101.out; have hnc35 := NB101_107.out; have hcz36_0 : w34.cell? ⟨gb107, 0, none⟩ = some (.string (⟨#[]⟩ : ByteArray)) := (blk_cell BK107.out 0).trans rfl; have hcz36_1 : w34.cell? ⟨gb107, 1, none⟩ = some (.slice none 0 0) := (blk_cell BK107.out 1).trans rfl; have hcz36_2 : w34.cell? ⟨gb107, 2, none⟩ = some (.slice none 0 0) := (blk_cell BK107.out 2).trans rfl; have hfz36_0 := blk_frozen BK107.out 0; have hfz36_1 := blk_frozen BK107.out 1; have hfz36_2 := blk_frozen BK107.out 2; obtain ⟨Ao37, co37, eo37⟩ := Kd.R_slice HO_4.out; subst eo37) | ((with_reducible refine gate_callee (f := 81) rfl ?_); refine goesL_ (some 31) rfl rfl Try.func81 (by kernel_rfl) rfl #[.slice Ao37 x4_2.length co37, .string ((rd_T56 l0_1 x23_2).f0)] rfl (pY38) ?_; (with_reducible refine (slices_Contains_string_string.calls k2 _ _ x4_2 ((rd_T56 l0_1 x23_2).f0) false _ ?side1 ?side2 A15.out).mono ?_); (case side1 => refine (Kd.R_reads' (e := 9) (base := w.heap.size) (ok := fun k_ => True) (n := x4_2.length) (c := co37) ?_).2.2; exact (pY4)); (case side2 => exact (Kd.R_reads' HO_4.out).2.1); rintro e w' ⟨rfl, ⟨nd, rfl⟩⟩; refine ⟨_, rfl, ?_⟩; have hcz38_0 : w34.cell? ⟨gb101, 0, none⟩ = some (.slice A0_0 l0_0.length c0_0) := (blk_cell BK101.out 0).trans rfl; have hcz38_1 : w34.cell? ⟨gb101, 1, none⟩ = some (.slice (some ad106) l0_1.length c0_1) := (blk_cell BK101.out 1).trans rfl; have hfz38_0 := blk_frozen BK101.out 0; have hfz38_1 := blk_frozen BK101.out 1) | (go_at_call 85; (with_reducible refine (impl_ShareBook_can.calls k2 _ _ l0_0 _ _ l0_1 x23_2 _ _ x4_2 true _ ?side1 ?side2 ?side3 ?side4 ?side5 ?side6 A21.out).mono ?_); (case side1 => exact Kd.C_below HR0_0.out (pY32)); (case side2 => exact HC0_0.out); (case side3 => exact Kd.C_below HR0_1.out (pY32)); (case side4 => exact HC0_1.out); (case side5 => refine (Kd.R_reads' (e := 9) (base := w.heap.size) (ok := fun k_ => True) (n := x4_2.length) (c := co37) ?_).2.2; exact (pY4)); (case side6 => exact (Kd.R_reads' HO_4.out).2.1); rintro e w39 ⟨rfl, hb⟩; have n0_ := Aside0.mk (Kd.R_below (pY4) hb); have n1_ := Aside0.mk (blk_below (g := gb101) (o := .cells #[.slice A0_0 l0_0.length c0_0, .slice (some ad106) l0_1.length c0_1] 31 (0, 0)) (pY3) hb); have n2_ := Aside0.mk (blk_below (g := gb107) (o := .cells #[.string ((rd_T56 l0_1 x23_2).f0), .slice A106_1 ((rd_T56 l0_1 x23_2).f1).length c106_1, .slice A106_2 ((rd_T56 l0_1 x23_2).f2).length c106_2] 56 (0, 0)) (pY2) hb); have n3_ := Aside0.mk (below_step (pY32) hb); clear HO_4; clear BK101; clear BK107; clear HB; have HO_4 := n0_; have BK101 := n1_; have BK107 := n2_; have HB := n3_; clear n0_ n1_ n2_ n3_; (try clear hb); (try clear hb2); (try clear hk); (try clear hi); have hcz40_0 : w39.cell? ⟨gb107, 0, none⟩ = some (.string ((rd_T56 l0_1 x23_2).f0)) := (blk_cell BK107.out 0).trans rfl; have hcz40_1 : w39.cell? ⟨gb107, 1, none⟩ = some (.slice A106_1 ((rd_T56 l0_1 x23_2).f1).length c106_1) := (blk_cell BK107.out 1).trans rfl; have hcz40_2 : w39.cell? ⟨gb107, 2, none⟩ = some (.slice A106_2 ((rd_T56 l0_1 x23_2).f2).length c106_2) := (blk_cell BK107.out 2).trans rfl; have hfz40_0 := blk_frozen BK107.out 0; have hfz40_1 := blk_frozen BK107.out 1; have hfz40_2 := blk_frozen BK107.out 2) | ((with_reducible refine gate_builtin (b := .append) (xs := #[.tmp 39, .tmp 42]) rfl ?_); at_builtin; refine Kd.R_append Kd.string (w0 := w) w.heap.size rfl (.tmp 39) (.tmp 42) 23 9 (.string ⟨#[]⟩) 16 rfl Try.underlying23 info9 rfl (by decide) (by omega) (.slice Ao37 x4_2.length co37) x4_2 ((rd_T56 l0_1 x23_2).f0) [.string ((rd_T56 l0_1 x23_2).f0)] (fun _ => True) (fun _ => False) rfl rfl ?aP (fun _ hk => hk.elim) ?aF ?aO ?aB ?aS ?aL ?_; (case aP => exact rfl); (case aB => exact (pY32)); (case aF => exact (fun _ _ => trivial)); (case aO => exact (pY53)); (case aS => exact (below_size (pY32))); (case aL => have := LMc23.out; omega); intro v111 w41 ho hb hg hat; rw [← Ny110.out] at ho; have n0_ := Aside0.mk (blk_grown (g := gb101) (o := .cells #[.slice A0_0 l0_0.length c0_0, .slice (some ad106) l0_1.length c0_1] 31 (0, 0)) (pY40) hg (Kd.R_ne HO_4.out BK101.out (by decide))); have n1_ := Aside0.mk (blk_grown (g := gb107) (o := .cells #[.string ((rd_T56 l0_1 x23_2).f0), .slice A106_1 ((rd_T56 l0_1 x23_2).f1).length c106_1, .slice A106_2 ((rd_T56 l0_1 x23_2).f2).length c106_2] 56 (0, 0)) (by (with_reducible repeat (first | refine blk_drewN ?_ _ | refine blk_drew ?_ | refine blk_alloc ?_ _)); exact BK107.out) hg (Kd.R_ne HO_4.out BK107.out (by decide))); have n2_ := Aside0.mk (hb); have n3_ := Aside0.mk (ho); clear BK101; clear BK107; clear HB; clear HO_4; have BK101 := n0_; have BK107 := n1_; have HB := n2_; have HO112 := n3_; clear n0_ n1_ n2_ n3_; clear ho hb hg hat; obtain ⟨Ao42, co42, eo42⟩ := Kd.R_slice HO112.out; subst eo42))
              go_roundg k2
              case measure => have := HK1.out; have := HK2.out; omega
              case rel => exact ⟨(y110), H', ⟨by have := HK1.out; have := HK2.out; omega⟩, ⟨by (with_reducible repeat (first | apply Kd.R_alloc | apply Kd.R_drewN | apply Kd.R_drew)); exact HO112.out⟩, ⟨by (with_reducible repeat (first | refine blk_drewN ?_ _ | refine blk_drew ?_ | refine blk_alloc ?_ _)); exact BK101.out⟩, ⟨pY32⟩⟩
            ·rw [if_neg c23] at H
             exact absurd H (by simp)
           ·replace c22 := Bool.eq_false_iff.mpr c22
            subst c22
            have H1 : (impl_ShareOrder.l1 k2 x4_2 (x4_1.length : Int) l0_1 (l0_1.length : Int) (wrap64 (x23_2 + 1)) l0_0 l0_1) = some (r1, r2) := by rw [if_neg (show ¬ (false = true) by decide)] at H; exact H
            clear H
            have H := H1
            clear H1
            have H' := Aside0.mk H
            clear H
            have p106 : 0 ≤ (x23_2 : Int) := of_decide_eq_true (pY58)
            have q106 : x23_2 < (l0_1.length : Int) := of_decide_eq_true (pY58)
            obtain ⟨ad106, A106_1, c106_1, A106_2, c106_2, e106, hx106_0, hx106_1, hx106_2, hl106_1, hi106_1, hl106_2, hi106_2⟩ := at_T56 HR0_1.out x23_2 p106 q106
            cases e106
            replace hx106_0 := (HB.out.cell (World.block_lt_of_cell? w _ hx106_0)).trans hx106_0
            replace hx106_1 := (HB.out.cell (World.block_lt_of_cell? w _ hx106_1)).trans hx106_1
            replace hx106_2 := (HB.out.cell (World.block_lt_of_cell? w _ hx106_2)).trans hx106_2
            have HR106_1 := Aside0.mk hi106_1
            have HC106_1 := Aside0.mk hl106_1
            clear hi106_1 hl106_1
            have HR106_2 := Aside0.mk hi106_2
            have HC106_2 := Aside0.mk hl106_2
            clear hi106_2 hl106_2
            replace p106 := eq_true p106
            replace q106 := eq_true q106
            go_wp2_with (first | ((with_reducible refine gate_dst (N := 7) rfl ?_); refine box_event ?hg (N := 7) ?hd (cs := #[.string (⟨#[]⟩ : ByteArray), .slice none 0 0, .slice none 0 0]) (t := 56) ?hr ?_; (case hd => rfl); (case hg => rfl); (case hr => first | (go_simp; done) | (go_simp; rfl)); intro gb107 hg w43 hbox hb; have n0_ := Aside0.mk (Kd.R_below (pY53) hb); have n1_ := Aside0.mk (blk_below (g := gb101) (o := .cells #[.slice A0_0 l0_0.length c0_0, .slice (some ad106) l0_1.length c0_1] 31 (0, 0)) (pY40) hb); have n2_ := Aside0.mk (below_step (pY37) hb); have n3_ := Aside0.mk (hbox); have n4_ := Aside0.mk ((pY27 : w.heap.size ≤ gb107)); have n5_ := Aside0.mk ((pY27 : w.heap.size ≤ gb107)); have n6_ := Aside0.mk ((pY17 : gb101 ≠ gb107)); have n7_ := Aside0.mk ((pY18 : gb107 ≠ gb101)); clear HO_4; clear BK101; clear HB; have HO_4 := n0_; have BK101 := n1_; have HB := n2_; have BK107 := n3_; have GW107 := n4_; have GE107 := n5_; have NB101_107 := n6_; have NB107_101 := n7_; clear n0_ n1_ n2_ n3_ n4_ n5_ n6_ n7_; clear hb hbox hg; have hnb44 := NB107_101.out; have hnc44 := NB101_107.out; have hcz45_0 : w43.cell? ⟨gb107, 0, none⟩ = some (.string (⟨#[]⟩ : ByteArray)) := (blk_cell BK107.out 0).trans rfl; have hcz45_1 : w43.cell? ⟨gb107, 1, none⟩ = some (.slice none 0 0) := (blk_cell BK107.out 1).trans rfl; have hcz45_2 : w43.cell? ⟨gb107, 2, none⟩ = some (.slice none 0 0) := (blk_cell BK107.out 2).trans rfl; have hfz45_0 := blk_frozen BK107.out 0; have hfz45_1 := blk_frozen BK107.out 1; have hfz45_2 := blk_frozen BK107.out 2; obtain ⟨Ao46, co46, eo46⟩ := Kd.R_slice HO_4.out; subst eo46) | ((with_reducible refine gate_callee (f := 81) rfl ?_); refine goesL_ (some 31) rfl rfl Try.func81 (by kernel_rfl) rfl #[.slice Ao46 x4_2.length co46, .string ((rd_T56 l0_1 x23_2).f0)] rfl (pY38) ?_; (with_reducible refine (slices_Contains_string_string.calls k2 _ _ x4_2 ((rd_T56 l0_1 x23_2).f0) false _ ?side1 ?side2 A15.out).mono ?_); (case side1 => refine (Kd.R_reads' (e := 9) (base := w.heap.size) (ok := fun k_ => True) (n := x4_2.length) (c := co46) ?_).2.2; exact (pY4)); (case side2 => exact (Kd.R_reads' HO_4.out).2.1); rintro e w' ⟨rfl, ⟨nd, rfl⟩⟩; refine ⟨_, rfl, ?_⟩; have hcz47_0 : w43.cell? ⟨gb101, 0, none⟩ = some (.slice A0_0 l0_0.length c0_0) := (blk_cell BK101.out 0).trans rfl; have hcz47_1 : w43.cell? ⟨gb101, 1, none⟩ = some (.slice (some ad106) l0_1.length c0_1) := (blk_cell BK101.out 1).trans rfl; have hfz47_0 := blk_frozen BK101.out 0; have hfz47_1 := blk_frozen BK101.out 1) | (go_at_call 85; (with_reducible refine (impl_ShareBook_can.calls k2 _ _ l0_0 _ _ l0_1 x23_2 _ _ x4_2 false _ ?side1 ?side2 ?side3 ?side4 ?side5 ?side6 A21.out).mono ?_); (case side1 => exact Kd.C_below HR0_0.out (pY32)); (case side2 => exact HC0_0.out); (case side3 => exact Kd.C_below HR0_1.out (pY32)); (case side4 => exact HC0_1.out); (case side5 => refine (Kd.R_reads' (e := 9) (base := w.heap.size) (ok := fun k_ => True) (n := x4_2.length) (c := co46) ?_).2.2; exact (pY4)); (case side6 => exact (Kd.R_reads' HO_4.out).2.1); rintro e w48 ⟨rfl, hb⟩; have n0_ := Aside0.mk (Kd.R_below (pY4) hb); have n1_ := Aside0.mk (blk_below (g := gb101) (o := .cells #[.slice A0_0 l0_0.length c0_0, .slice (some ad106) l0_1.length c0_1] 31 (0, 0)) (pY3) hb); have n2_ := Aside0.mk (blk_below (g := gb107) (o := .cells #[.string ((rd_T56 l0_1 x23_2).f0), .slice A106_1 ((rd_T56 l0_1 x23_2).f1).length c106_1, .slice A106_2 ((rd_T56 l0_1 x23_2).f2).length c106_2] 56 (0, 0)) (pY2) hb); have n3_ := Aside0.mk (below_step (pY32) hb); clear HO_4; clear BK101; clear BK107; clear HB; have HO_4 := n0_; have BK101 := n1_; have BK107 := n2_; have HB := n3_; clear n0_ n1_ n2_ n3_; (try clear hb); (try clear hb2); (try clear hk); (try clear hi)))
            go_roundg k2
            case measure => have := HK1.out; have := HK2.out; omega
            case rel => exact ⟨(x4_2), (wrap64 (x23_2 + 1)), (pY59), H', ⟨by have := HK1.out; have := HK2.out; omega⟩, ⟨by (with_reducible repeat (first | apply Kd.R_alloc | apply Kd.R_drewN | apply Kd.R_drew)); exact HO_4.out⟩, ⟨by (with_reducible repeat (first | refine blk_drewN ?_ _ | refine blk_drew ?_ | refine blk_alloc ?_ _)); exact BK101.out⟩, ⟨pY32⟩⟩
         ·rw [if_neg c14] at H
          exact absurd H (by simp)
        ·rw [if_neg c13] at H
         exact absurd H (by simp)
       ·rw [if_neg c12] at H
        have c12b0 : decide (x23_2 < (l0_1.length : Int)) = false := decide_eq_false c12
        clear c12
        by_cases c49 : (x4_2.length : Int) = (x4_1.length : Int)
        ·rw [if_pos c49] at H
         have c49b0 : ((x4_2.length : Int) == (x4_1.length : Int)) = true := beq_iff_eq.mpr c49
         have c49b1 : ((x4_2.length : Int) != (x4_1.length : Int)) = false := bne_eq_false_iff_eq.mpr c49
         have c49b2 : (x4_2.length == x4_1.length) = true := by first | simpa using c49 | (simp at c49 ⊢; omega)
         clear c49
         simp only [Option.some.injEq, Prod.mk.injEq] at H
         obtain ⟨rfl, rfl⟩ := H
         obtain ⟨Ao50, co50, eo50⟩ := Kd.R_slice HO_4.out
         subst eo50
         go_wp2
         go_ret2
         exact ⟨_, by first | rfl | (simp [errW_none, errW_some] <;> rfl) | (simp [*, errW_none, errW_some] <;> rfl), by first | exact Kd.R_nil _ _ _ _ _ | exact Kd.N_nil _ _ _ _ _ | exact Kd.V_nil _ _ _ _ _ | exact Kd.Q_nil _ _ _ _ _ | exact Kd.S_nil _ _ _ _ _, pY37⟩
        ·rw [if_neg c49] at H
         have c49b0 : ((x4_2.length : Int) == (x4_1.length : Int)) = false := beq_eq_false_iff_ne.mpr c49
         have c49b1 : ((x4_2.length : Int) != (x4_1.length : Int)) = true := bne_iff_ne.mpr c49
         have c49b2 : (x4_2.length == x4_1.length) = false := by first | simpa using c49 | (simp at c49 ⊢; omega)
         have H' := Aside0.mk H
         clear H
         obtain ⟨Ao51, co51, eo51⟩ := Kd.R_slice HO_4.out
         subst eo51
         go_wp2
         go_roundg k2
         case measure => have := HK1.out; have := HK2.out; omega
         case rel => exact ⟨(x4_2), H', ⟨by have := HK1.out; have := HK2.out; omega⟩, ⟨by (with_reducible repeat (first | apply Kd.R_alloc | apply Kd.R_drewN | apply Kd.R_drew)); exact HO_4.out⟩, ⟨by (with_reducible repeat (first | refine blk_drewN ?_ _ | refine blk_drew ?_ | refine blk_alloc ?_ _)); exact BK101.out⟩, ⟨pY37⟩⟩
    ·rw [if_neg c9] at H
     have c9b0 : decide ((x4_1.length : Int) < (l0_1.length : Int)) = false := decide_eq_false c9
     have c9b1 : decide (x4_1.length < l0_1.length) = false := decide_eq_false (fun h => c9 (Int.ofNat_lt.mpr h))
     clear c9
     simp only [Option.some.injEq, Prod.mk.injEq] at H
     obtain ⟨rfl, rfl⟩ := H
     obtain ⟨Ao52, co52, eo52⟩ := Kd.R_slice HO_4.out
     subst eo52
     have hcz53_0 : wr.cell? ⟨gb101, 0, none⟩ = some (.slice A0_0 l0_0.length c0_0) := (blk_cell BK101.out 0).trans rfl
     have hcz53_1 : wr.cell? ⟨gb101, 1, none⟩ = some (.slice A0_1 l0_1.length c0_1) := (blk_cell BK101.out 1).trans rfl
     have hfz53_0 := blk_frozen BK101.out 0
     have hfz53_1 := blk_frozen BK101.out 1
     go_wp2
     go_ret2
     exact ⟨_, by first | rfl | (simp [errW_none, errW_some] <;> rfl) | (simp [*, errW_none, errW_some] <;> rfl), by (with_reducible repeat (first | apply Kd.R_alloc | apply Kd.R_drewN | apply Kd.R_drew)); exact HO_4.out, pY37⟩
 ·replace c3 := Bool.eq_false_iff.mpr c3
  subst c3
  have H1 : (some (([] : List ByteArray), false)) = some (r1, r2) := by rw [if_neg (show ¬ (false = true) by decide)] at H; exact H
  clear H
  have H := H1
  clear H1
  simp only [Option.some.injEq, Prod.mk.injEq] at H
  obtain ⟨rfl, rfl⟩ := H
  go_enter Try.func45, Try.ntmps45
  go_wp2_with (first | ((with_reducible refine gate_dst (N := 1) rfl ?_); refine box_event ?hg (N := 1) ?hd (cs := #[.slice A0_0 l0_0.length c0_0, .slice A0_1 l0_1.length c0_1]) (t := 31) ?hr ?_; (case hd => rfl); (case hg => rfl); (case hr => first | (go_simp; done) | (go_simp; rfl)); intro gb101 hg w54 hbox hb; have n0_ := Aside0.mk (below_step (pY39) hb); have n1_ := Aside0.mk (hbox); have n2_ := Aside0.mk ((pY36 : w.heap.size ≤ gb101)); have n3_ := Aside0.mk ((pY36 : w.heap.size ≤ gb101)); clear HB; have HB := n0_; have BK101 := n1_; have GW101 := n2_; have GE101 := n3_; clear n0_ n1_ n2_ n3_; clear hb hbox hg; have hcz55_0 : w54.cell? ⟨gb101, 0, none⟩ = some (.slice A0_0 l0_0.length c0_0) := (blk_cell BK101.out 0).trans rfl; have hcz55_1 : w54.cell? ⟨gb101, 1, none⟩ = some (.slice A0_1 l0_1.length c0_1) := (blk_cell BK101.out 1).trans rfl; have hfz55_0 := blk_frozen BK101.out 0; have hfz55_1 := blk_frozen BK101.out 1) | ((with_reducible refine gate_callee (f := 24) rfl ?_); refine goesL_ (some 9) rfl rfl Try.func24 (by kernel_rfl) rfl #[.agg #[.slice A0_0 l0_0.length c0_0, .slice A0_1 l0_1.length c0_1]] rfl (pY38) ?_; (with_reducible refine (impl_ShareBookOk.calls k _ _ l0_0 _ _ l0_1 false _ ?side1 ?side2 ?side3 ?side4 A2.out).mono ?_); (case side1 => exact pC (Kd.C_below HR0_0.out HB.out)); (case side2 => exact HC0_0.out); (case side3 => exact pC (Kd.C_below HR0_1.out HB.out)); (case side4 => exact HC0_1.out); rintro e w56 ⟨rfl, hb⟩; refine ⟨_, rfl, ?_⟩; have n0_ := Aside0.mk (blk_below (g := gb101) (o := .cells #[.slice A0_0 l0_0.length c0_0, .slice A0_1 l0_1.length c0_1] 31 (0, 0)) (pY40) hb); have n1_ := Aside0.mk (below_step (pY37) hb); clear BK101; clear HB; have BK101 := n0_; have HB := n1_; clear n0_ n1_; (try clear hb); (try clear hb2); (try clear hk); (try clear hi)))
  go_ret2
  exact ⟨_, by first | rfl | (simp [errW_none, errW_some] <;> rfl) | (simp [*, errW_none, errW_some] <;> rfl), by first | exact Kd.R_nil _ _ _ _ _ | exact Kd.N_nil _ _ _ _ _ | exact Kd.V_nil _ _ _ _ _ | exact Kd.Q_nil _ _ _ _ _ | exact Kd.S_nil _ _ _ _ _, pY37⟩
end Go.Proofs.Ytaofjgnhapnndaa.Q
namespace Go.Proofs.Ytaofjgnhapnndaa.Q
open Go.RowKit Go.Proofs.YtaofjgnhapnndaaW.PrintWords Go.Proofs.YtaofjgnhapnndaaW.PrintLast Go.Proofs.YtaofjgnhapnndaaW.PrintMore
set_option linter.unusedVariables false
set_option linter.unusedSimpArgs false
def nextP (bs : List IB) (gone : List ByteArray) (i : Nat) : Bool := !hasS gone (gB bs i).f0 && canB bs i gone
def nextB (bs : List IB) (gone : List ByteArray) : Option Nat := findR (nextP bs gone) bs.length 0
def orderGo (bs : List IB) : Nat → List ByteArray → List ByteArray × Bool
  | 0, gone => (gone, true)
  | d + 1, gone => match nextB bs gone with
    | none => ([], false)
    | some i => orderGo bs d (gone ++ [(gB bs i).f0])
def orderB (ts : List ByteArray) (bs : List IB) : List ByteArray × Bool := if bookB ts bs = true then orderGo bs bs.length [] else ([], false)
theorem spec_l2Next_ev (ts : List ByteArray) (bs : List IB) (gone : List ByteArray) (hl : bs.length ≤ 9223372036854775807) (hb : Bok bs) (hg : gone.length ≤ 9223372036854775807) : Ev (fun k => spec_l2Next.f k ts bs gone) (((nextB bs gone).map fun (i : Nat) => (i : Int)).getD (-1)) := by
  unfold spec_l2Next.f nextB
  refine Ev.loop (f := fun k i => spec_l2Next.l0 k gone (i : Int) ts bs) (val := fun i => ((findR (nextP bs gone) bs.length i).map fun (i : Nat) => (i : Int)).getD (-1)) bs.length ?_ ?_ 0 (by omega)
  · refine Ev.step (fun k => spec_l2Next.l0.eq_2 gone _ ts bs k) (Ev.neg (by omega) (Ev.ret (by simp [findR_end])))
  · intro i hi H
    simp only [findR_step (nextP bs gone) hi]
    refine Ev.step (fun k => spec_l2Next.l0.eq_2 gone _ ts bs k) (Ev.pos (by omega) (Ev.pos (by omega) (Ev.bind (spec_l1Has_ev gone _ hg) ?_)))
    rw [rdB_cast, wrap_up hi hl]
    refine Ev.test _ (fun h => Ev.sub H (by simp [nextP, h])) (fun h => Ev.bind (spec_l2Can_ev ts bs i gone hl hb hi hg) ?_)
    refine Ev.test _ (fun h2 => Ev.ret (by simp [nextP, h, h2])) (fun h2 => Ev.sub H (by simp [nextP, h2]))
theorem spec_ShareOrder_ev (ts : List ByteArray) (bs : List IB) (ht : ts.length ≤ 9223372036854775807) (hl : bs.length ≤ 9223372036854775807) (hb : Bok bs) : Ev (fun k => spec_ShareOrder.f k ts bs) (orderB ts bs) := by
  unfold spec_ShareOrder.f orderB
  simp only [Option.bind_some]
  refine Ev.bind (spec_ShareBookOk_ev ts bs ht hl hb) (Ev.test _ (fun h => ?_) (fun h => Ev.ret (by simp [h])))
  have h5 := book_five h
  rw [if_pos h]
  have go : ∀ (d : Nat) (x : List ByteArray), x.length + d = bs.length → Ev (fun k => spec_ShareOrder.l0 k x ts bs) (orderGo bs d x) := by
    intro d
    induction d with
    | zero =>
      intro x hx
      exact Ev.step (fun k => spec_ShareOrder.l0.eq_2 x ts bs k) (Ev.neg (by omega) (Ev.ret rfl))
    | succ d ih =>
      intro x hx
      refine Ev.step (fun k => spec_ShareOrder.l0.eq_2 x ts bs k) (Ev.pos (by omega) (Ev.bind (spec_l2Next_ev ts bs x hl hb (by omega)) ?_))
      unfold orderGo
      cases hn : nextB bs x with
      | none => exact Ev.pos (by simp) (Ev.ret rfl)
      | some i =>
        have hi := (findR_lt hn).2.1
        simp only [Option.map_some, Option.getD_some]
        refine Ev.neg (by omega) (Ev.pos (by omega) (Ev.pos (by omega) (Ev.pos (by omega) ?_)))
        rw [rdB_cast]
        exact ih _ (by simp; omega)
  exact go bs.length [] (by simp)
theorem impl_ShareOrder_ev (ts : List ByteArray) (bs : List IB) (ht : ts.length ≤ 9223372036854775807) (hl : bs.length ≤ 9223372036854775807) (hb : Bok bs) : Ev (fun k => impl_ShareOrder.f k ts bs) (orderB ts bs) := by
  unfold impl_ShareOrder.f orderB
  refine Ev.bind (impl_ShareBookOk_ev ts bs ht hl hb) (Ev.test _ (fun h => ?_) (fun h => Ev.ret (by simp [h])))
  have h5 := book_five h
  rw [if_pos h]
  have go : ∀ (d : Nat) (x : List ByteArray), x.length + d = bs.length → Ev (fun k => impl_ShareOrder.l0 k x ts bs) (orderGo bs d x) := by
    intro d
    induction d with
    | zero =>
      intro x hx
      exact Ev.step (fun k => impl_ShareOrder.l0.eq_2 x ts bs k) (Ev.neg (by omega) (Ev.ret rfl))
    | succ d ih =>
      intro x hx
      refine Ev.step (fun k => impl_ShareOrder.l0.eq_2 x ts bs k) (Ev.pos (by omega) ?_)
      unfold orderGo nextB
      refine Ev.loop (f := fun k i => impl_ShareOrder.l1 k x (x.length : Int) bs (bs.length : Int) (i : Int) ts bs)
        (val := fun i => match findR (nextP bs x) bs.length i with | none => ([], false) | some i => orderGo bs d (x ++ [(gB bs i).f0])) bs.length ?_ ?_ 0 (by omega)
      · simp only [findR_end]
        exact Ev.step (fun k => impl_ShareOrder.l1.eq_2 x _ bs _ _ ts bs k) (Ev.neg (by omega) (Ev.pos rfl (Ev.ret rfl)))
      · intro i hi H
        simp only [findR_step (nextP bs x) hi]
        refine Ev.step (fun k => impl_ShareOrder.l1.eq_2 x _ bs _ _ ts bs k) (Ev.pos (by omega) (Ev.pos (by omega) (Ev.pos (by omega) (Ev.bind (contains_ev x _ (by omega)) ?_))))
        rw [rdB_cast, wrap_up hi hl]
        refine Ev.test _ (fun h1 => Ev.sub H (by simp [nextP, h1])) (fun h1 => Ev.bind (impl_can_ev ts bs i x hl hi (by omega)) ?_)
        refine Ev.test _ (fun h2 => Ev.pos (by omega) ?_) (fun h2 => Ev.sub H (by simp [nextP, h2]))
        simp only [Option.bind_some]
        refine Ev.neg (by simp; omega) (Ev.sub (ih _ (by simp; omega)) (by simp [nextP, h1, h2]))
  exact go bs.length [] (by simp)
end Go.Proofs.Ytaofjgnhapnndaa.Q
namespace Go.Proofs.Ytaofjgnhapnndaa.Q
open Go.RowKit Go.Proofs.YtaofjgnhapnndaaW.PrintWords Go.Proofs.YtaofjgnhapnndaaW.PrintLast Go.Proofs.YtaofjgnhapnndaaW.PrintMore
set_option linter.unusedVariables false
set_option linter.unusedSimpArgs false
theorem orderGo_len (bs : List IB) : ∀ (d : Nat) (x : List ByteArray), (orderGo bs d x).1.length ≤ d + x.length
  | 0, x => by simp [orderGo]
  | d + 1, x => by
    unfold orderGo
    split
    · simp
    · refine Nat.le_trans (orderGo_len bs d _) ?_
      simp; omega
theorem orderB_len (ts : List ByteArray) (bs : List IB) : (orderB ts bs).1.length ≤ bs.length := by
  unfold orderB
  split
  · exact orderGo_len bs bs.length []
  · simp
end Go.Proofs.Ytaofjgnhapnndaa.Q
namespace Go.Proofs.Ytaofjgnhapnndaa.Q
open Go.RowKit Go.Proofs.YtaofjgnhapnndaaW.PrintWords Go.Proofs.YtaofjgnhapnndaaW.PrintLast Go.Proofs.YtaofjgnhapnndaaW.PrintMore
set_option linter.unusedVariables false
set_option linter.unusedSimpArgs false
mutual
def laws_FnExactShareOrder.j0 : Nat → List ByteArray → Bool → List ByteArray → Bool → Bool → List ByteArray → List (S94) → List ByteArray → List (S56) → Option (Bool)
 | 0, _, _, _, _, _, _, _, _, _ => none
 | k + 1, x4, x5, x7, x8, x40, x102000, x102001, x120000, x120001 => if x40 = true then (some false) else ((laws_toShareBook.f k x102000 x102001).bind fun bt125 => ((laws_eqShareBook.f k x120000 x120001 bt125.1 bt125.2).bind fun t131 => (if t131 = true then ((laws_markShareBook.f k x120000 x120001 1).bind fun t132 => (if t132 < 0 then (laws_FnExactShareOrder.j1 k x4 x5 x7 true x102000 x102001) else ((laws_eqStringS.f k x7 x4).bind fun t133 => (if t133 = true then (laws_FnExactShareOrder.j1 k x4 x5 x7 (x8 != x5) x102000 x102001) else (laws_FnExactShareOrder.j1 k x4 x5 x7 true x102000 x102001))))) else (some false))))
def laws_FnExactShareOrder.j1 : Nat → List ByteArray → Bool → List ByteArray → Bool → List ByteArray → List (S94) → Option (Bool)
 | 0, _, _, _, _, _, _ => none
 | k + 1, x4, x5, x7, x61, x102000, x102001 => if x61 = true then (some false) else ((laws_markStringS.f k x7 1).bind fun bt134 => ((laws_heldStringS.f k bt134.2 1).bind fun t136 => (if t136 < 0 then (some false) else (if t136 = bt134.1 then ((laws_toShareBook.f k x102000 x102001).bind fun bt137 => ((impl_ShareOrder.f k bt137.1 bt137.2).bind fun bt143 => ((laws_eqStringS.f k bt143.1 x4).bind fun t147 => (if t147 = true then (laws_FnExactShareOrder.j2 k bt134.2 bt134.1 (bt143.2 != x5)) else (laws_FnExactShareOrder.j2 k bt134.2 bt134.1 true))))) else (some false)))))
def laws_FnExactShareOrder.j2 : Nat → List ByteArray → Int → Bool → Option (Bool)
 | 0, _, _, _ => none
 | k + 1, x7, x10, x87 => if x87 = true then (some false) else ((laws_heldStringS.f k x7 1).bind fun t148 => (if t148 < 0 then (some false) else (if t148 = x10 then (some true) else (some false))))
end
def laws_FnExactShareOrder.f (k : Nat) (l0_0 : List ByteArray) (l0_1 : List (S94)) : Option (Bool) := (laws_szShareBook.f k l0_0 l0_1 1048576).bind fun t102 => (if t102 < 0 then (some true) else ((laws_toShareBook.f k l0_0 l0_1).bind fun bt103 => ((spec_ShareOrder.f k bt103.1 bt103.2).bind fun bt109 => ((laws_toShareBook.f k l0_0 l0_1).bind fun bt113 => ((impl_ShareOrder.f k bt113.1 bt113.2).bind fun bt120 => ((laws_eqStringS.f k bt120.1 bt109.1).bind fun t124 => (if t124 = true then (laws_FnExactShareOrder.j0 k bt109.1 bt109.2 bt120.1 bt120.2 (bt120.2 != bt109.2) l0_0 l0_1 bt113.1 bt113.2) else (laws_FnExactShareOrder.j0 k bt109.1 bt109.2 bt120.1 bt120.2 true l0_0 l0_1 bt113.1 bt113.2))))))))
set_option maxHeartbeats 8000000 in
set_option maxRecDepth 100000 in
theorem laws_FnExactShareOrder.calls (k : Nat) (A0_0 : Option Addr) (c0_0 : Nat) (l0_0 : List ByteArray) (A0_1 : Option Addr) (c0_1 : Nat) (l0_1 : List (S94)) (r : Bool) (w : World) (hr0_0 : Kd.C Kd.string w A0_0 l0_0.length l0_0) (hc0_0 : l0_0.length ≤ c0_0) (hr0_1 : Kd.C k94 w A0_1 l0_1.length l0_1) (hc0_1 : l0_1.length ≤ c0_1) (h : laws_FnExactShareOrder.f k l0_0 l0_1 = some r) :
  Calls Try.prog 11 #[.agg #[.slice A0_0 l0_0.length c0_0, .slice A0_1 l0_1.length c0_1]] w fun e w' => e = .returned (.bool r) ∧ Below w.heap.size w w' := by
 have hu26 := Try.underlying26
 have hu31 := Try.underlying31
 have HR0_0 := Aside0.mk hr0_0
 have HC0_0 := Aside0.mk hc0_0
 clear hr0_0 hc0_0
 have HR0_1 := Aside0.mk hr0_1
 have HC0_1 := Aside0.mk hc0_1
 clear hr0_1 hc0_1
 have HB := Aside0.mk (Below.refl w.heap.size w)
 have H : ((laws_szShareBook.f k l0_0 l0_1 1048576).bind fun t102 => (if t102 < 0 then (some true) else ((laws_toShareBook.f k l0_0 l0_1).bind fun bt103 => ((spec_ShareOrder.f k bt103.1 bt103.2).bind fun bt109 => ((laws_toShareBook.f k l0_0 l0_1).bind fun bt113 => ((impl_ShareOrder.f k bt113.1 bt113.2).bind fun bt120 => ((laws_eqStringS.f k bt120.1 bt109.1).bind fun t124 => (if t124 = true then (laws_FnExactShareOrder.j0 k bt109.1 bt109.2 bt120.1 bt120.2 (bt120.2 != bt109.2) l0_0 l0_1 bt113.1 bt113.2) else (laws_FnExactShareOrder.j0 k bt109.1 bt109.2 bt120.1 bt120.2 true l0_0 l0_1 bt113.1 bt113.2))))))))) = some r := h
 clear h
 replace H := Option.bind_eq_some_iff.mp H
 obtain ⟨t102, A20, H⟩ := H
 replace H : (if t102 < 0 then (some true) else ((laws_toShareBook.f k l0_0 l0_1).bind fun bt103 => ((spec_ShareOrder.f k bt103.1 bt103.2).bind fun bt109 => ((laws_toShareBook.f k l0_0 l0_1).bind fun bt113 => ((impl_ShareOrder.f k bt113.1 bt113.2).bind fun bt120 => ((laws_eqStringS.f k bt120.1 bt109.1).bind fun t124 => (if t124 = true then (laws_FnExactShareOrder.j0 k bt109.1 bt109.2 bt120.1 bt120.2 (bt120.2 != bt109.2) l0_0 l0_1 bt113.1 bt113.2) else (laws_FnExactShareOrder.j0 k bt109.1 bt109.2 bt120.1 bt120.2 true l0_0 l0_1 bt113.1 bt113.2)))))))) = some r := H
 have A2 := Aside0.mk A20
 clear A20
 by_cases c3 : t102 < 0
 ·rw [if_pos c3] at H
  have c3b0 : decide (t102 < 0) = true := decide_eq_true c3
  clear c3
  obtain rfl := Option.some.inj H
  go_enter Try.func11, Try.ntmps11
  go_wp2_with (first | ((with_reducible refine gate_dst (N := 1) rfl ?_); refine box_event ?hg (N := 1) ?hd (cs := #[.slice A0_0 l0_0.length c0_0, .slice A0_1 l0_1.length c0_1]) (t := 26) ?hr ?_; (case hd => rfl); (case hg => rfl); (case hr => first | (go_simp; done) | (go_simp; rfl)); intro gb101 hg w4 hbox hb; have n0_ := Aside0.mk (below_step (pY39) hb); have n1_ := Aside0.mk (hbox); have n2_ := Aside0.mk ((pY36 : w.heap.size ≤ gb101)); have n3_ := Aside0.mk ((pY36 : w.heap.size ≤ gb101)); clear HB; have HB := n0_; have BK101 := n1_; have GW101 := n2_; have GE101 := n3_; clear n0_ n1_ n2_ n3_; clear hb hbox hg; have hcz5_0 : w4.cell? ⟨gb101, 0, none⟩ = some (.slice A0_0 l0_0.length c0_0) := (blk_cell BK101.out 0).trans rfl; have hcz5_1 : w4.cell? ⟨gb101, 1, none⟩ = some (.slice A0_1 l0_1.length c0_1) := (blk_cell BK101.out 1).trans rfl; have hfz5_0 := blk_frozen BK101.out 0; have hfz5_1 := blk_frozen BK101.out 1) | ((with_reducible refine gate_callee (f := 21) rfl ?_); refine goesL_ (some 16) rfl rfl Try.func21 (by kernel_rfl) rfl #[.agg #[.slice A0_0 l0_0.length c0_0, .slice A0_1 l0_1.length c0_1], .int .i64 1048576] rfl (pY38) ?_; (with_reducible refine (laws_szShareBook.calls k _ _ l0_0 _ _ l0_1 1048576 t102 _ ?side1 ?side2 ?side3 ?side4 A2.out).mono ?_); (case side1 => exact pC (Kd.C_below HR0_0.out HB.out)); (case side2 => exact HC0_0.out); (case side3 => exact pC (Kd.C_below HR0_1.out HB.out)); (case side4 => exact HC0_1.out); rintro e w6 ⟨rfl, hb⟩; refine ⟨_, rfl, ?_⟩; have n0_ := Aside0.mk (blk_below (g := gb101) (o := .cells #[.slice A0_0 l0_0.length c0_0, .slice A0_1 l0_1.length c0_1] 26 (0, 0)) (pY40) hb); have n1_ := Aside0.mk (below_step (pY37) hb); clear BK101; clear HB; have BK101 := n0_; have HB := n1_; clear n0_ n1_; (try clear hb); (try clear hb2); (try clear hk); (try clear hi)))
  go_ret
  exact ⟨by first | rfl | (simp [errW_none, errW_some] <;> rfl) | (simp [*, errW_none, errW_some] <;> rfl), pY37⟩
 ·rw [if_neg c3] at H
  have c3b0 : decide (t102 < 0) = false := decide_eq_false c3
  clear c3
  replace H := Option.bind_eq_some_iff.mp H
  obtain ⟨⟨t103, t106⟩, A70, H⟩ := H
  replace H : ((spec_ShareOrder.f k t103 t106).bind fun bt109 => ((laws_toShareBook.f k l0_0 l0_1).bind fun bt113 => ((impl_ShareOrder.f k bt113.1 bt113.2).bind fun bt120 => ((laws_eqStringS.f k bt120.1 bt109.1).bind fun t124 => (if t124 = true then (laws_FnExactShareOrder.j0 k bt109.1 bt109.2 bt120.1 bt120.2 (bt120.2 != bt109.2) l0_0 l0_1 bt113.1 bt113.2) else (laws_FnExactShareOrder.j0 k bt109.1 bt109.2 bt120.1 bt120.2 true l0_0 l0_1 bt113.1 bt113.2)))))) = some r := H
  have A7 := Aside0.mk A70
  clear A70
  replace H := Option.bind_eq_some_iff.mp H
  obtain ⟨⟨t109, t112⟩, A80, H⟩ := H
  replace H : ((laws_toShareBook.f k l0_0 l0_1).bind fun bt113 => ((impl_ShareOrder.f k bt113.1 bt113.2).bind fun bt120 => ((laws_eqStringS.f k bt120.1 t109).bind fun t124 => (if t124 = true then (laws_FnExactShareOrder.j0 k t109 t112 bt120.1 bt120.2 (bt120.2 != t112) l0_0 l0_1 bt113.1 bt113.2) else (laws_FnExactShareOrder.j0 k t109 t112 bt120.1 bt120.2 true l0_0 l0_1 bt113.1 bt113.2))))) = some r := H
  have A8 := Aside0.mk A80
  clear A80
  replace H := Option.bind_eq_some_iff.mp H
  obtain ⟨⟨t113, t116⟩, A90, H⟩ := H
  replace H : ((impl_ShareOrder.f k t113 t116).bind fun bt120 => ((laws_eqStringS.f k bt120.1 t109).bind fun t124 => (if t124 = true then (laws_FnExactShareOrder.j0 k t109 t112 bt120.1 bt120.2 (bt120.2 != t112) l0_0 l0_1 t113 t116) else (laws_FnExactShareOrder.j0 k t109 t112 bt120.1 bt120.2 true l0_0 l0_1 t113 t116)))) = some r := H
  have A9 := Aside0.mk A90
  clear A90
  replace H := Option.bind_eq_some_iff.mp H
  obtain ⟨⟨t120, t123⟩, A100, H⟩ := H
  replace H : ((laws_eqStringS.f k t120 t109).bind fun t124 => (if t124 = true then (laws_FnExactShareOrder.j0 k t109 t112 t120 t123 (t123 != t112) l0_0 l0_1 t113 t116) else (laws_FnExactShareOrder.j0 k t109 t112 t120 t123 true l0_0 l0_1 t113 t116))) = some r := H
  have A10 := Aside0.mk A100
  clear A100
  have HC11 := Aside0.mk H
  clear H
  go_enter Try.func11, Try.ntmps11
  go_upto_region 8 with (first | ((with_reducible refine gate_dst (N := 1) rfl ?_); refine box_event ?hg (N := 1) ?hd (cs := #[.slice A0_0 l0_0.length c0_0, .slice A0_1 l0_1.length c0_1]) (t := 26) ?hr ?_; (case hd => rfl); (case hg => rfl); (case hr => first | (go_simp; done) | (go_simp; rfl)); intro gb101 hg w12 hbox hb; have n0_ := Aside0.mk (below_step (pY39) hb); have n1_ := Aside0.mk (hbox); have n2_ := Aside0.mk ((pY36 : w.heap.size ≤ gb101)); have n3_ := Aside0.mk ((pY36 : w.heap.size ≤ gb101)); clear HB; have HB := n0_; have BK101 := n1_; have GW101 := n2_; have GE101 := n3_; clear n0_ n1_ n2_ n3_; clear hb hbox hg; have hcz13_0 : w12.cell? ⟨gb101, 0, none⟩ = some (.slice A0_0 l0_0.length c0_0) := (blk_cell BK101.out 0).trans rfl; have hcz13_1 : w12.cell? ⟨gb101, 1, none⟩ = some (.slice A0_1 l0_1.length c0_1) := (blk_cell BK101.out 1).trans rfl; have hfz13_0 := blk_frozen BK101.out 0; have hfz13_1 := blk_frozen BK101.out 1) | ((with_reducible refine gate_callee (f := 21) rfl ?_); refine goesL_ (some 16) rfl rfl Try.func21 (by kernel_rfl) rfl #[.agg #[.slice A0_0 l0_0.length c0_0, .slice A0_1 l0_1.length c0_1], .int .i64 1048576] rfl (pY38) ?_; (with_reducible refine (laws_szShareBook.calls k _ _ l0_0 _ _ l0_1 1048576 t102 _ ?side1 ?side2 ?side3 ?side4 A2.out).mono ?_); (case side1 => exact pC (Kd.C_below HR0_0.out HB.out)); (case side2 => exact HC0_0.out); (case side3 => exact pC (Kd.C_below HR0_1.out HB.out)); (case side4 => exact HC0_1.out); rintro e w14 ⟨rfl, hb⟩; refine ⟨_, rfl, ?_⟩; have n0_ := Aside0.mk (blk_below (g := gb101) (o := .cells #[.slice A0_0 l0_0.length c0_0, .slice A0_1 l0_1.length c0_1] 26 (0, 0)) (pY40) hb); have n1_ := Aside0.mk (below_step (pY37) hb); clear BK101; clear HB; have BK101 := n0_; have HB := n1_; clear n0_ n1_; (try clear hb); (try clear hb2); (try clear hk); (try clear hi); have hcz15_0 : w14.cell? ⟨gb101, 0, none⟩ = some (.slice A0_0 l0_0.length c0_0) := (blk_cell BK101.out 0).trans rfl; have hcz15_1 : w14.cell? ⟨gb101, 1, none⟩ = some (.slice A0_1 l0_1.length c0_1) := (blk_cell BK101.out 1).trans rfl; have hfz15_0 := blk_frozen BK101.out 0; have hfz15_1 := blk_frozen BK101.out 1) | ((with_reducible refine gate_callee (f := 23) rfl ?_); refine goesL_ (some 21) rfl rfl Try.func23 (by kernel_rfl) rfl #[.agg #[.slice A0_0 l0_0.length c0_0, .slice A0_1 l0_1.length c0_1]] rfl (pY38) ?_; (with_reducible refine (laws_toShareBook.calls k _ _ l0_0 _ _ l0_1 t103 t106 _ ?side1 ?side2 ?side3 ?side4 A7.out).mono ?_); (case side1 => exact pC (Kd.C_below HR0_0.out HB.out)); (case side2 => exact HC0_0.out); (case side3 => exact pC (Kd.C_below HR0_1.out HB.out)); (case side4 => exact HC0_1.out); rintro e w16 ⟨v104, v107, rfl, ho0, ho1, hb⟩; refine ⟨_, rfl, ?_⟩; have n0_ := Aside0.mk (Kd.R_lower ho0 (below_size (pY37))); have n1_ := Aside0.mk (Kd.S_lower ho1 (below_size (pY37))); have n2_ := Aside0.mk (blk_below (g := gb101) (o := .cells #[.slice A0_0 l0_0.length c0_0, .slice A0_1 l0_1.length c0_1] 26 (0, 0)) (pY40) hb); have n3_ := Aside0.mk (below_step (pY37) hb); clear BK101; clear HB; have HO105 := n0_; have HO108 := n1_; have BK101 := n2_; have HB := n3_; clear n0_ n1_ n2_ n3_; (try clear hb); (try clear hb2); (try clear hk); (try clear hi); (try clear ho0); (try clear ho1); obtain ⟨Ao17, co17, eo17⟩ := Kd.R_slice HO105.out; subst eo17; obtain ⟨Ao18, co18, eo18⟩ := Kd.S_slice HO108.out; subst eo18) | ((with_reducible refine gate_callee (f := 44) rfl ?_); refine goesL_ (some 22) rfl rfl Try.func44 (by kernel_rfl) rfl #[.agg #[.slice Ao17 t103.length co17, .slice Ao18 t106.length co18]] rfl (pY38) ?_; (with_reducible refine (spec_ShareOrder.calls k _ _ t103 _ _ t106 t109 t112 _ ?side1 ?side2 ?side3 ?side4 A8.out).mono ?_); (case side1 => exact pC (Kd.R_reads' HO105.out).2.2); (case side2 => exact (Kd.R_reads' HO105.out).2.1); (case side3 => exact pC (Kd.S_reads' HO108.out).2.2); (case side4 => exact (Kd.S_reads' HO108.out).2.1); rintro e w19 ⟨v110, rfl, ho0, hb⟩; refine ⟨_, rfl, ?_⟩; have n0_ := Aside0.mk (Kd.R_elder' (pY44) (Kd.R_base ho0) hb); have n1_ := Aside0.mk (Kd.S_elder' (pY45) (Kd.R_base ho0) hb); have n2_ := Aside0.mk (Kd.R_lower (Kd.R_new' ho0 (Kd.R_lt (pY44))) (below_size (pY37))); have n3_ := Aside0.mk (blk_below (g := gb101) (o := .cells #[.slice A0_0 l0_0.length c0_0, .slice A0_1 l0_1.length c0_1] 26 (0, 0)) (pY40) hb); have n4_ := Aside0.mk (below_step (pY37) hb); clear HO105; clear HO108; clear BK101; clear HB; have HO105 := n0_; have HO108 := n1_; have HO111 := n2_; have BK101 := n3_; have HB := n4_; clear n0_ n1_ n2_ n3_ n4_; (try clear hb); (try clear hb2); (try clear hk); (try clear hi); (try clear ho0); have hcz20_0 : w19.cell? ⟨gb101, 0, none⟩ = some (.slice A0_0 l0_0.length c0_0) := (blk_cell BK101.out 0).trans rfl; have hcz20_1 : w19.cell? ⟨gb101, 1, none⟩ = some (.slice A0_1 l0_1.length c0_1) := (blk_cell BK101.out 1).trans rfl; have hfz20_0 := blk_frozen BK101.out 0; have hfz20_1 := blk_frozen BK101.out 1) | ((with_reducible refine gate_callee (f := 23) rfl ?_); refine goesL_ (some 26) rfl rfl Try.func23 (by kernel_rfl) rfl #[.agg #[.slice A0_0 l0_0.length c0_0, .slice A0_1 l0_1.length c0_1]] rfl (pY38) ?_; (with_reducible refine (laws_toShareBook.calls k _ _ l0_0 _ _ l0_1 t113 t116 _ ?side1 ?side2 ?side3 ?side4 A9.out).mono ?_); (case side1 => exact pC (Kd.C_below HR0_0.out HB.out)); (case side2 => exact HC0_0.out); (case side3 => exact pC (Kd.C_below HR0_1.out HB.out)); (case side4 => exact HC0_1.out); rintro e w21 ⟨v114, v117, rfl, ho0, ho1, hb⟩; refine ⟨_, rfl, ?_⟩; have n0_ := Aside0.mk (Kd.R_elder' (pY44) (Kd.R_base ho0) hb); have n1_ := Aside0.mk (Kd.S_mono (Kd.S_told (Kd.S_told (Kd.S_old (pY45) hb) (Kd.R_base ho0)) (Kd.S_base ho1)) (fun _ h_ => h_.1)); have n2_ := Aside0.mk (Kd.R_elder' (pY46) (Kd.R_base ho0) hb); have n3_ := Aside0.mk (Kd.R_lower (Kd.R_new' (Kd.R_new' ho0 (Kd.R_lt (pY44))) (Kd.R_lt (pY46))) (below_size (pY37))); have n4_ := Aside0.mk (Kd.S_lower (Kd.S_new' (Kd.S_new' (Kd.S_new' ho1 (Kd.R_lt (pY44))) (Kd.S_lt (pY45))) (Kd.R_lt (pY46))) (below_size (pY37))); have n5_ := Aside0.mk (blk_below (g := gb101) (o := .cells #[.slice A0_0 l0_0.length c0_0, .slice A0_1 l0_1.length c0_1] 26 (0, 0)) (pY40) hb); have n6_ := Aside0.mk (below_step (pY37) hb); clear HO105; clear HO108; clear HO111; clear BK101; clear HB; have HO105 := n0_; have HO108 := n1_; have HO111 := n2_; have HO115 := n3_; have HO118 := n4_; have BK101 := n5_; have HB := n6_; clear n0_ n1_ n2_ n3_ n4_ n5_ n6_; (try clear hb); (try clear hb2); (try clear hk); (try clear hi); (try clear ho0); (try clear ho1)) | ((with_reducible refine gate_dst (N := 6) rfl ?_); refine box_event ?hg (N := 6) ?hd (cs := #[.slice none 0 0, .slice none 0 0]) (t := 31) ?hr ?_; (case hd => rfl); (case hg => rfl); (case hr => first | (go_simp; done) | (go_simp; rfl)); intro gb119 hg w22 hbox hb; have n0_ := Aside0.mk (Kd.R_below (pY44) hb); have n1_ := Aside0.mk (Kd.S_below (pY45) hb); have n2_ := Aside0.mk (Kd.R_below (pY46) hb); have n3_ := Aside0.mk (Kd.R_below (by (with_reducible repeat (first | apply Kd.R_alloc | apply Kd.R_drewN | apply Kd.R_drew)); exact HO115.out) hb); have n4_ := Aside0.mk (Kd.S_below (by (with_reducible repeat (first | apply Kd.S_alloc | apply Kd.S_drewN | apply Kd.S_drew)); exact HO118.out) hb); have n5_ := Aside0.mk (blk_below (g := gb101) (o := .cells #[.slice A0_0 l0_0.length c0_0, .slice A0_1 l0_1.length c0_1] 26 (0, 0)) (pY40) hb); have n6_ := Aside0.mk (below_step (pY37) hb); have n7_ := Aside0.mk (hbox); have n8_ := Aside0.mk ((pY27 : w.heap.size ≤ gb119)); have n9_ := Aside0.mk ((pY27 : w.heap.size ≤ gb119)); have n10_ := Aside0.mk ((pY19 : gb101 ≠ gb119)); have n11_ := Aside0.mk ((pY20 : gb119 ≠ gb101)); clear HO105; clear HO108; clear HO111; clear HO115; clear HO118; clear BK101; clear HB; have HO105 := n0_; have HO108 := n1_; have HO111 := n2_; have HO115 := n3_; have HO118 := n4_; have BK101 := n5_; have HB := n6_; have BK119 := n7_; have GW119 := n8_; have GE119 := n9_; have NB101_119 := n10_; have NB119_101 := n11_; clear n0_ n1_ n2_ n3_ n4_ n5_ n6_ n7_ n8_ n9_ n10_ n11_; clear hb hbox hg; obtain ⟨Ao23, co23, eo23⟩ := Kd.R_slice HO115.out; subst eo23; have hnb24 := NB119_101.out; have hnc24 := NB101_119.out; have hcz25_0 : w22.cell? ⟨gb119, 0, none⟩ = some (.slice none 0 0) := (blk_cell BK119.out 0).trans rfl; have hcz25_1 : w22.cell? ⟨gb119, 1, none⟩ = some (.slice none 0 0) := (blk_cell BK119.out 1).trans rfl; have hfz25_0 := blk_frozen BK119.out 0; have hfz25_1 := blk_frozen BK119.out 1; obtain ⟨Ao26, co26, eo26⟩ := Kd.S_slice HO118.out; subst eo26) | ((with_reducible refine gate_callee (f := 45) rfl ?_); refine goesL_ (some 29) rfl rfl Try.func45 (by kernel_rfl) rfl #[.agg #[.slice Ao23 t113.length co23, .slice Ao26 t116.length co26]] rfl (pY38) ?_; (with_reducible refine (impl_ShareOrder.calls k _ _ t113 _ _ t116 t120 t123 _ ?side1 ?side2 ?side3 ?side4 A10.out).mono ?_); (case side1 => refine (Kd.R_reads' (e := 9) (base := w.heap.size) (ok := fun k_ => ((True ∧ some k_ ≠ (.slice Ao17 t103.length co17 : Value).ownBlock) ∧ some k_ ≠ (v110 : Value).ownBlock)) (n := t113.length) (c := co23) ?_).2.2; exact (pY12)); (case side2 => exact (Kd.R_reads' HO115.out).2.1); (case side3 => refine (Kd.S_reads' (e := 56) (base := w.heap.size) (ok := fun k_ => (((some k_ ≠ (.slice Ao23 t113.length co23 : Value).ownBlock ∧ some k_ ≠ (.slice Ao17 t103.length co17 : Value).ownBlock) ∧ some k_ ≠ (.slice Ao18 t106.length co18 : Value).ownBlock) ∧ some k_ ≠ (v110 : Value).ownBlock)) (n := t116.length) (c := co26) ?_).2.2; exact (by (with_reducible repeat (first | apply Kd.S_alloc | apply Kd.S_drewN | apply Kd.S_drew)); exact (Kd.S_mono (Kd.S_far (p := ⟨gb119, 1, none⟩) (Kd.S_far (p := ⟨gb119, 0, none⟩) (Kd.S_types HO118.out BK119.out (by decide)) (fun _ hk => hk.2) (.slice Ao23 t113.length co23)) (fun _ hk => hk.2) (.slice Ao26 t116.length co26)) (fun _ h_ => h_.1)))); (case side4 => exact (Kd.S_reads' HO118.out).2.1); rintro e w27 ⟨v121, rfl, ho0, hb⟩; refine ⟨_, rfl, ?_⟩; have n0_ := Aside0.mk (Kd.R_elder' (by (with_reducible repeat (first | apply Kd.R_alloc | apply Kd.R_drewN | apply Kd.R_drew)); exact (Kd.R_mono (Kd.R_far (p := ⟨gb119, 1, none⟩) (Kd.R_far (p := ⟨gb119, 0, none⟩) (Kd.R_types HO105.out BK119.out (by decide)) (fun _ hk => hk.2) (.slice Ao23 t113.length co23)) (fun _ hk => hk.2) (.slice Ao26 t116.length co26)) (fun _ h_ => h_.1))) (Kd.R_base ho0) hb); have n1_ := Aside0.mk (Kd.S_elder' (by (with_reducible repeat (first | apply Kd.S_alloc | apply Kd.S_drewN | apply Kd.S_drew)); exact (Kd.S_mono (Kd.S_far (p := ⟨gb119, 1, none⟩) (Kd.S_far (p := ⟨gb119, 0, none⟩) (Kd.S_types HO108.out BK119.out (by decide)) (fun _ hk => hk.2) (.slice Ao23 t113.length co23)) (fun _ hk => hk.2) (.slice Ao26 t116.length co26)) (fun _ h_ => h_.1))) (Kd.R_base ho0) hb); have n2_ := Aside0.mk (Kd.R_elder' (by (with_reducible repeat (first | apply Kd.R_alloc | apply Kd.R_drewN | apply Kd.R_drew)); exact (Kd.R_mono (Kd.R_far (p := ⟨gb119, 1, none⟩) (Kd.R_far (p := ⟨gb119, 0, none⟩) (Kd.R_types HO111.out BK119.out (by decide)) (fun _ hk => hk.2) (.slice Ao23 t113.length co23)) (fun _ hk => hk.2) (.slice Ao26 t116.length co26)) (fun _ h_ => h_.1))) (Kd.R_base ho0) hb); have n3_ := Aside0.mk (Kd.R_elder' (pY12) (Kd.R_base ho0) hb); have n4_ := Aside0.mk (Kd.S_elder' (by (with_reducible repeat (first | apply Kd.S_alloc | apply Kd.S_drewN | apply Kd.S_drew)); exact (Kd.S_mono (Kd.S_far (p := ⟨gb119, 1, none⟩) (Kd.S_far (p := ⟨gb119, 0, none⟩) (Kd.S_types HO118.out BK119.out (by decide)) (fun _ hk => hk.2) (.slice Ao23 t113.length co23)) (fun _ hk => hk.2) (.slice Ao26 t116.length co26)) (fun _ h_ => h_.1))) (Kd.R_base ho0) hb); have n5_ := Aside0.mk (Kd.R_lower (Kd.R_new' (Kd.R_new' (Kd.R_new' ho0 (Kd.R_lt (by (with_reducible repeat (first | apply Kd.R_alloc | apply Kd.R_drewN | apply Kd.R_drew)); exact (Kd.R_mono (Kd.R_far (p := ⟨gb119, 1, none⟩) (Kd.R_far (p := ⟨gb119, 0, none⟩) (Kd.R_types HO105.out BK119.out (by decide)) (fun _ hk => hk.2) (.slice Ao23 t113.length co23)) (fun _ hk => hk.2) (.slice Ao26 t116.length co26)) (fun _ h_ => h_.1))))) (Kd.R_lt (by (with_reducible repeat (first | apply Kd.R_alloc | apply Kd.R_drewN | apply Kd.R_drew)); exact (Kd.R_mono (Kd.R_far (p := ⟨gb119, 1, none⟩) (Kd.R_far (p := ⟨gb119, 0, none⟩) (Kd.R_types HO111.out BK119.out (by decide)) (fun _ hk => hk.2) (.slice Ao23 t113.length co23)) (fun _ hk => hk.2) (.slice Ao26 t116.length co26)) (fun _ h_ => h_.1))))) (Kd.R_lt (pY12))) (below_size (pY35))); have n6_ := Aside0.mk (blk_below (g := gb101) (o := .cells #[.slice A0_0 l0_0.length c0_0, .slice A0_1 l0_1.length c0_1] 26 (0, 0)) (by (with_reducible repeat (first | refine blk_drewN ?_ _ | refine blk_drew ?_ | refine blk_alloc ?_ _)); refine blk_far ?_ NB101_119.out _; (with_reducible repeat (first | refine blk_drewN ?_ _ | refine blk_drew ?_ | refine blk_alloc ?_ _)); refine blk_far ?_ NB101_119.out _; (with_reducible repeat (first | refine blk_drewN ?_ _ | refine blk_drew ?_ | refine blk_alloc ?_ _)); exact BK101.out) hb); have n7_ := Aside0.mk (blk_below (g := gb119) (o := .cells #[.slice Ao23 t113.length co23, .slice Ao26 t116.length co26] 31 (0, 0)) (by (with_reducible repeat (first | refine blk_drewN ?_ _ | refine blk_drew ?_ | refine blk_alloc ?_ _)); refine blk_put (cs := #[.slice Ao23 t113.length co23, .slice none 0 0]) ?_ 1 _ rfl; (with_reducible repeat (first | refine blk_drewN ?_ _ | refine blk_drew ?_ | refine blk_alloc ?_ _)); refine blk_put (cs := #[.slice none 0 0, .slice none 0 0]) ?_ 0 _ rfl; (with_reducible repeat (first | refine blk_drewN ?_ _ | refine blk_drew ?_ | refine blk_alloc ?_ _)); exact BK119.out) hb); have n8_ := Aside0.mk (below_step (pY35) hb); clear HO105; clear HO108; clear HO111; clear HO115; clear HO118; clear BK101; clear BK119; clear HB; have HO105 := n0_; have HO108 := n1_; have HO111 := n2_; have HO115 := n3_; have HO118 := n4_; have HO122 := n5_; have BK101 := n6_; have BK119 := n7_; have HB := n8_; clear n0_ n1_ n2_ n3_ n4_ n5_ n6_ n7_ n8_; (try clear hb); (try clear hb2); (try clear hk); (try clear hi); (try clear ho0)))
  (try simp only [Act.put, List.setIfInBounds_toArray, List.set_cons_zero, List.set_cons_succ])
  go_cut [40] (fun v40 wc => ∃ (kq : Nat) (x40_10 : Bool), v40 = .bool x40_10 ∧ Aside0 (laws_FnExactShareOrder.j0 kq t109 t112 t120 t123 x40_10 l0_0 l0_1 t113 t116 = some r) ∧ Aside0 (kq ≤ k) ∧ Aside0 (Kd.R Kd.string 9 wc w.heap.size (fun k_ => some k_ ≠ (v121 : Value).ownBlock ∧ some k_ ≠ ((.slice Ao23 t113.length co23) : Value).ownBlock) v110 t109) ∧ Aside0 (Kd.R Kd.string 9 wc w.heap.size (fun k_ => some k_ ≠ (v110 : Value).ownBlock ∧ some k_ ≠ ((.slice Ao23 t113.length co23) : Value).ownBlock) v121 t120) ∧ Aside0 (Kd.R Kd.string 9 wc w.heap.size (fun k_ => some k_ ≠ (v110 : Value).ownBlock ∧ some k_ ≠ (v121 : Value).ownBlock) (.slice Ao23 t113.length co23) t113) ∧ Aside0 (Kd.S k56 56 wc w.heap.size (fun k_ => some k_ ≠ (v110 : Value).ownBlock ∧ some k_ ≠ (v121 : Value).ownBlock ∧ some k_ ≠ ((.slice Ao23 t113.length co23) : Value).ownBlock) (.slice Ao26 t116.length co26) t116) ∧ Aside0 (wc.heap[gb101]? = some (.cells #[(.slice A0_0 l0_0.length c0_0), (.slice A0_1 l0_1.length c0_1)] 26 (0, 0))) ∧ Aside0 (wc.heap[gb119]? = some (.cells #[(.slice Ao23 t113.length co23), (.slice Ao26 t116.length co26)] 31 (0, 0))) ∧ Aside0 (Below w.heap.size w wc))
  case first =>
   have H := HC11.out
   clear HC11
   replace H := Option.bind_eq_some_iff.mp H
   obtain ⟨t124, A280, H⟩ := H
   replace H : (if t124 = true then (laws_FnExactShareOrder.j0 k t109 t112 t120 t123 (t123 != t112) l0_0 l0_1 t113 t116) else (laws_FnExactShareOrder.j0 k t109 t112 t120 t123 true l0_0 l0_1 t113 t116)) = some r := H
   have A28 := Aside0.mk A280
   clear A280
   by_cases c29 : t124 = true
   ·subst c29
    have H1 : (laws_FnExactShareOrder.j0 k t109 t112 t120 t123 (t123 != t112) l0_0 l0_1 t113 t116) = some r := by rw [if_pos rfl] at H; exact H
    clear H
    have H := H1
    clear H1
    have H' := Aside0.mk H
    clear H
    obtain ⟨Ao30, co30, eo30⟩ := Kd.R_slice HO122.out
    subst eo30
    obtain ⟨Ao31, co31, eo31⟩ := Kd.R_slice HO111.out
    subst eo31
    go_wp2_with (first | ((with_reducible refine gate_callee (f := 34) rfl ?_); refine goesL_ (some 34) rfl rfl Try.func34 (by kernel_rfl) rfl #[.slice Ao30 t120.length co30, .slice Ao31 t109.length co31] rfl (pY38) ?_; (with_reducible refine (laws_eqStringS.calls k _ _ t120 _ _ t109 true _ ?side1 ?side2 ?side3 ?side4 A28.out).mono ?_); (case side1 => exact pC (Kd.R_reads' HO122.out).2.2); (case side2 => exact (Kd.R_reads' HO122.out).2.1); (case side3 => exact pC (Kd.R_reads' HO111.out).2.2); (case side4 => exact (Kd.R_reads' HO111.out).2.1); rintro e w' ⟨rfl, ⟨nd, rfl⟩⟩; refine ⟨_, rfl, ?_⟩))
    go_meet
    case rel => exact ⟨_, ((t123 != t112)), (pY59), H', ⟨by first | omega | exact Nat.le_refl _⟩, ⟨by (with_reducible repeat (first | apply Kd.R_alloc | apply Kd.R_drewN | apply Kd.R_drew)); exact Kd.R_mono HO111.out (fun _ hk => ⟨hk.2, hk.1.2⟩)⟩, ⟨by (with_reducible repeat (first | apply Kd.R_alloc | apply Kd.R_drewN | apply Kd.R_drew)); exact Kd.R_mono HO122.out (fun _ hk => ⟨hk.1.2, hk.2⟩)⟩, ⟨by (with_reducible repeat (first | apply Kd.R_alloc | apply Kd.R_drewN | apply Kd.R_drew)); exact Kd.R_mono HO115.out (fun _ hk => ⟨hk.1.2, hk.2⟩)⟩, ⟨by (with_reducible repeat (first | apply Kd.S_alloc | apply Kd.S_drewN | apply Kd.S_drew)); exact Kd.S_mono HO118.out (fun _ hk => ⟨hk.1.2, ⟨hk.2, hk.1.1.1.1⟩⟩)⟩, ⟨by (with_reducible repeat (first | refine blk_drewN ?_ _ | refine blk_drew ?_ | refine blk_alloc ?_ _)); exact BK101.out⟩, ⟨by (with_reducible repeat (first | refine blk_drewN ?_ _ | refine blk_drew ?_ | refine blk_alloc ?_ _)); exact BK119.out⟩, ⟨pY35⟩⟩
   ·replace c29 := Bool.eq_false_iff.mpr c29
    subst c29
    have H1 : (laws_FnExactShareOrder.j0 k t109 t112 t120 t123 true l0_0 l0_1 t113 t116) = some r := by rw [if_neg (show ¬ (false = true) by decide)] at H; exact H
    clear H
    have H := H1
    clear H1
    have H' := Aside0.mk H
    clear H
    obtain ⟨Ao32, co32, eo32⟩ := Kd.R_slice HO122.out
    subst eo32
    obtain ⟨Ao33, co33, eo33⟩ := Kd.R_slice HO111.out
    subst eo33
    go_wp2_with (first | ((with_reducible refine gate_callee (f := 34) rfl ?_); refine goesL_ (some 34) rfl rfl Try.func34 (by kernel_rfl) rfl #[.slice Ao32 t120.length co32, .slice Ao33 t109.length co33] rfl (pY38) ?_; (with_reducible refine (laws_eqStringS.calls k _ _ t120 _ _ t109 false _ ?side1 ?side2 ?side3 ?side4 A28.out).mono ?_); (case side1 => exact pC (Kd.R_reads' HO122.out).2.2); (case side2 => exact (Kd.R_reads' HO122.out).2.1); (case side3 => exact pC (Kd.R_reads' HO111.out).2.2); (case side4 => exact (Kd.R_reads' HO111.out).2.1); rintro e w' ⟨rfl, ⟨nd, rfl⟩⟩; refine ⟨_, rfl, ?_⟩))
    go_meet
    case rel => exact ⟨_, (true), (pY59), H', ⟨by first | omega | exact Nat.le_refl _⟩, ⟨by (with_reducible repeat (first | apply Kd.R_alloc | apply Kd.R_drewN | apply Kd.R_drew)); exact Kd.R_mono HO111.out (fun _ hk => ⟨hk.2, hk.1.2⟩)⟩, ⟨by (with_reducible repeat (first | apply Kd.R_alloc | apply Kd.R_drewN | apply Kd.R_drew)); exact Kd.R_mono HO122.out (fun _ hk => ⟨hk.1.2, hk.2⟩)⟩, ⟨by (with_reducible repeat (first | apply Kd.R_alloc | apply Kd.R_drewN | apply Kd.R_drew)); exact Kd.R_mono HO115.out (fun _ hk => ⟨hk.1.2, hk.2⟩)⟩, ⟨by (with_reducible repeat (first | apply Kd.S_alloc | apply Kd.S_drewN | apply Kd.S_drew)); exact Kd.S_mono HO118.out (fun _ hk => ⟨hk.1.2, ⟨hk.2, hk.1.1.1.1⟩⟩)⟩, ⟨by (with_reducible repeat (first | refine blk_drewN ?_ _ | refine blk_drew ?_ | refine blk_alloc ?_ _)); exact BK101.out⟩, ⟨by (with_reducible repeat (first | refine blk_drewN ?_ _ | refine blk_drew ?_ | refine blk_alloc ?_ _)); exact BK119.out⟩, ⟨pY35⟩⟩
  case rest =>
   clear HC11
   try clear c1
   try clear c2
   try clear p2
   try clear c3
   try clear c3b0
   try clear c4
   try clear c11
   try clear c21
   try clear c23
   try clear c24
   try clear c29
   try clear hcz13_0
   try clear hcz13_1
   try clear hcz15_0
   try clear hcz15_1
   try clear hcz20_0
   try clear hcz20_1
   try clear hcz25_0
   try clear hcz25_1
   try clear hcz5_0
   try clear hcz5_1
   try clear hfz13_0
   try clear hfz13_1
   try clear hfz15_0
   try clear hfz15_1
   try clear hfz20_0
   try clear hfz20_1
   try clear hfz25_0
   try clear hfz25_1
   try clear hfz5_0
   try clear hfz5_1
   obtain ⟨kq, x40_10, rfl, HA, HJ10, HO_4, HO_7, HO_120000, HO_120001, BK101, BK119, HB⟩ := hcut
   cases kq with
   | zero => exact absurd HA.out (by simp [laws_FnExactShareOrder.j0])
   | succ kj10 =>
    have H := HA.out
    clear HA
    simp only [laws_FnExactShareOrder.j0] at H
    by_cases c34 : x40_10 = true
    ·subst c34
     have H1 : (some false) = some r := by rw [if_pos rfl] at H; exact H
     clear H
     have H := H1
     clear H1
     obtain rfl := Option.some.inj H
     go_wp2
     go_ret
     exact ⟨by first | rfl | (simp [errW_none, errW_some] <;> rfl) | (simp [*, errW_none, errW_some] <;> rfl), pY35⟩
    ·replace c34 := Bool.eq_false_iff.mpr c34
     subst c34
     have H1 : ((laws_toShareBook.f kj10 l0_0 l0_1).bind fun bt125 => ((laws_eqShareBook.f kj10 t113 t116 bt125.1 bt125.2).bind fun t131 => (if t131 = true then ((laws_markShareBook.f kj10 t113 t116 1).bind fun t132 => (if t132 < 0 then (laws_FnExactShareOrder.j1 kj10 t109 t112 t120 true l0_0 l0_1) else ((laws_eqStringS.f kj10 t120 t109).bind fun t133 => (if t133 = true then (laws_FnExactShareOrder.j1 kj10 t109 t112 t120 (t123 != t112) l0_0 l0_1) else (laws_FnExactShareOrder.j1 kj10 t109 t112 t120 true l0_0 l0_1))))) else (some false)))) = some r := by rw [if_neg (show ¬ (false = true) by decide)] at H; exact H
     clear H
     have H := H1
     clear H1
     replace H := Option.bind_eq_some_iff.mp H
     obtain ⟨⟨t125, t128⟩, A350, H⟩ := H
     replace H : ((laws_eqShareBook.f kj10 t113 t116 t125 t128).bind fun t131 => (if t131 = true then ((laws_markShareBook.f kj10 t113 t116 1).bind fun t132 => (if t132 < 0 then (laws_FnExactShareOrder.j1 kj10 t109 t112 t120 true l0_0 l0_1) else ((laws_eqStringS.f kj10 t120 t109).bind fun t133 => (if t133 = true then (laws_FnExactShareOrder.j1 kj10 t109 t112 t120 (t123 != t112) l0_0 l0_1) else (laws_FnExactShareOrder.j1 kj10 t109 t112 t120 true l0_0 l0_1))))) else (some false))) = some r := H
     have A35 := Aside0.mk A350
     clear A350
     replace H := Option.bind_eq_some_iff.mp H
     obtain ⟨t131, A360, H⟩ := H
     replace H : (if t131 = true then ((laws_markShareBook.f kj10 t113 t116 1).bind fun t132 => (if t132 < 0 then (laws_FnExactShareOrder.j1 kj10 t109 t112 t120 true l0_0 l0_1) else ((laws_eqStringS.f kj10 t120 t109).bind fun t133 => (if t133 = true then (laws_FnExactShareOrder.j1 kj10 t109 t112 t120 (t123 != t112) l0_0 l0_1) else (laws_FnExactShareOrder.j1 kj10 t109 t112 t120 true l0_0 l0_1))))) else (some false)) = some r := H
     have A36 := Aside0.mk A360
     clear A360
     by_cases c37 : t131 = true
     ·subst c37
      have H1 : ((laws_markShareBook.f kj10 t113 t116 1).bind fun t132 => (if t132 < 0 then (laws_FnExactShareOrder.j1 kj10 t109 t112 t120 true l0_0 l0_1) else ((laws_eqStringS.f kj10 t120 t109).bind fun t133 => (if t133 = true then (laws_FnExactShareOrder.j1 kj10 t109 t112 t120 (t123 != t112) l0_0 l0_1) else (laws_FnExactShareOrder.j1 kj10 t109 t112 t120 true l0_0 l0_1))))) = some r := by rw [if_pos rfl] at H; exact H
      clear H
      have H := H1
      clear H1
      replace H := Option.bind_eq_some_iff.mp H
      obtain ⟨t132, A380, H⟩ := H
      replace H : (if t132 < 0 then (laws_FnExactShareOrder.j1 kj10 t109 t112 t120 true l0_0 l0_1) else ((laws_eqStringS.f kj10 t120 t109).bind fun t133 => (if t133 = true then (laws_FnExactShareOrder.j1 kj10 t109 t112 t120 (t123 != t112) l0_0 l0_1) else (laws_FnExactShareOrder.j1 kj10 t109 t112 t120 true l0_0 l0_1)))) = some r := H
      have A38 := Aside0.mk A380
      clear A380
      have HC39 := Aside0.mk H
      clear H
      try go_wp2
      have n0_ := Aside0.mk (Kd.R_drew HO_4.out)
      have n1_ := Aside0.mk (Kd.R_drew HO_7.out)
      have n2_ := Aside0.mk (Kd.R_drew HO_120000.out)
      have n3_ := Aside0.mk (Kd.S_drew HO_120001.out)
      have n4_ := Aside0.mk (blk_drew BK101.out)
      have n5_ := Aside0.mk (blk_drew BK119.out)
      have n6_ := Aside0.mk (below_drew1 HB.out)
      clear HO_4
      clear HO_7
      clear HO_120000
      clear HO_120001
      clear BK101
      clear BK119
      clear HB
      have HO_4 := n0_
      have HO_7 := n1_
      have HO_120000 := n2_
      have HO_120001 := n3_
      have BK101 := n4_
      have BK119 := n5_
      have HB := n6_
      clear n0_ n1_ n2_ n3_ n4_ n5_ n6_
      refine start_ (n := 5) (S := fun w' => w'.cell? ⟨gb119, 0, none⟩ = some (.slice Ao23 t113.length co23) ∧ w'.cell? ⟨gb119, 1, none⟩ = some (.slice Ao26 t116.length co26) ∧ w'.cell? ⟨gb101, 0, none⟩ = some (.slice A0_0 l0_0.length c0_0) ∧ w'.cell? ⟨gb101, 1, none⟩ = some (.slice A0_1 l0_1.length c0_1)) (ds := []) #[false, false, false, false, false] (by kernel_rfl) rfl rfl ⟨(blk_cell BK119.out 0).trans rfl, (blk_cell BK119.out 1).trans rfl, (blk_cell BK101.out 0).trans rfl, (blk_cell BK101.out 1).trans rfl⟩ (fun hHeld => ?_)
      generalize wc.drew = w40 at HO_4 HO_7 HO_120000 HO_120001 BK101 BK119 HB hHeld ⊢
      refine tK4_ (i := 0) (N := some 41) #[true, false, false, false, false] ?_
      refine tK4_ (i := 1) (N := some 42) #[true, true, false, false, false] ?_
      refine one_ (i := 2) (N := some 43) #[true, true, true, false, false] rfl rfl (by kernel_rfl) (by decide) (fun K hK => ?_)
      refine goes_ Try.func23 (by kernel_rfl) rfl #[.agg #[.slice A0_0 l0_0.length c0_0, .slice A0_1 l0_1.length c0_1]] (by rfl) rfl rfl (pY38) ?_
      with_reducible refine (laws_toShareBook.calls kj10 _ _ l0_0 _ _ l0_1 t125 t128 _ ?side1 ?side2 ?side3 ?side4 A35.out).mono ?_
      (case side1 => exact pC (Kd.C_below HR0_0.out HB.out))
      (case side2 => exact HC0_0.out)
      (case side3 => exact pC (Kd.C_below HR0_1.out HB.out))
      (case side4 => exact HC0_1.out)
      rintro e w41 ⟨v126, v129, rfl, ho0, ho1, hb⟩
      refine ⟨_, rfl, ?_⟩
      have n0_ := Aside0.mk (Kd.R_elder' (pY53) (Kd.R_base ho0) hb)
      have n1_ := Aside0.mk (Kd.R_elder' (pY56) (Kd.R_base ho0) hb)
      have n2_ := Aside0.mk (Kd.R_elder' (pY43) (Kd.R_base ho0) hb)
      have n3_ := Aside0.mk (Kd.S_mono (Kd.S_told (Kd.S_told (Kd.S_old (by (with_reducible repeat (first | apply Kd.S_alloc | apply Kd.S_drewN | apply Kd.S_drew)); exact HO_120001.out) hb) (Kd.R_base ho0)) (Kd.S_base ho1)) (fun _ h_ => h_.1))
      have n4_ := Aside0.mk (Kd.R_lower (Kd.R_new' (Kd.R_new' (Kd.R_new' ho0 (Kd.R_lt (pY53))) (Kd.R_lt (pY56))) (Kd.R_lt (pY43))) (below_size (pY35)))
      have n5_ := Aside0.mk (Kd.S_lower (Kd.S_new' (Kd.S_new' (Kd.S_new' (Kd.S_new' ho1 (Kd.R_lt (pY53))) (Kd.R_lt (pY56))) (Kd.R_lt (pY43))) (Kd.S_lt (by (with_reducible repeat (first | apply Kd.S_alloc | apply Kd.S_drewN | apply Kd.S_drew)); exact HO_120001.out))) (below_size (pY35)))
      have n6_ := Aside0.mk (blk_below (g := gb101) (o := .cells #[.slice A0_0 l0_0.length c0_0, .slice A0_1 l0_1.length c0_1] 26 (0, 0)) (pY40) hb)
      have n7_ := Aside0.mk (blk_below (g := gb119) (o := .cells #[.slice Ao23 t113.length co23, .slice Ao26 t116.length co26] 31 (0, 0)) (by (with_reducible repeat (first | refine blk_drewN ?_ _ | refine blk_drew ?_ | refine blk_alloc ?_ _)); exact BK119.out) hb)
      have n8_ := Aside0.mk (below_step (pY35) hb)
      clear HO_4
      clear HO_7
      clear HO_120000
      clear HO_120001
      clear BK101
      clear BK119
      clear HB
      have HO_4 := n0_
      have HO_7 := n1_
      have HO_120000 := n2_
      have HO_120001 := n3_
      have HO127 := n4_
      have HO130 := n5_
      have BK101 := n6_
      have BK119 := n7_
      have HB := n8_
      clear n0_ n1_ n2_ n3_ n4_ n5_ n6_ n7_ n8_
      (try clear hb)
      (try clear hb2)
      (try clear hk)
      (try clear hi)
      (try clear ho0)
      (try clear ho1)
      obtain ⟨Ao42, co42, eo42⟩ := Kd.R_slice HO127.out
      (first | subst eo42 | (injection eo42 with f1_ f2_ f3_; have f4_ := f1_.symm; have f5_ := f3_.symm; clear f1_ f2_ f3_; subst f4_; subst f5_))
      obtain ⟨Ao43, co43, eo43⟩ := Kd.S_slice HO130.out
      (first | subst eo43 | (injection eo43 with f1_ f2_ f3_; have f4_ := f1_.symm; have f5_ := f3_.symm; clear f1_ f2_ f3_; subst f4_; subst f5_))
      refine hK.out _ _ ⟨(blk_cell BK119.out 0).trans rfl, (blk_cell BK119.out 1).trans rfl, (blk_cell BK101.out 0).trans rfl, (blk_cell BK101.out 1).trans rfl⟩ (fun hHeld => ?_)
      clear hK K
      refine norm_ (a' := ?_) ?_ ?_
      rotate_left
      ·show Act.put _ (some 43) _ = _
       simp only [pW]
       rfl
      refine one_ (i := 3) (N := some 44) #[true, true, true, true, false] rfl rfl (by kernel_rfl) (by decide) (fun K hK => ?_)
      refine goes_ Try.func25 (by kernel_rfl) rfl #[.agg #[.slice Ao23 t113.length co23, .slice Ao26 t116.length co26], .agg #[.slice Ao42 t125.length co42, .slice Ao43 t128.length co43]] (by rfl) rfl rfl (pY38) ?_
      with_reducible refine (laws_eqShareBook.calls kj10 _ _ t113 _ _ t116 _ _ t125 _ _ t128 true _ ?side1 ?side2 ?side3 ?side4 ?side5 ?side6 ?side7 ?side8 A36.out).mono ?_
      (case side1 => exact pC (Kd.R_reads' HO_120000.out).2.2)
      (case side2 => exact (Kd.R_reads' HO_120000.out).2.1)
      (case side3 => exact pC (Kd.S_reads' HO_120001.out).2.2)
      (case side4 => exact (Kd.S_reads' HO_120001.out).2.1)
      (case side5 => exact pC (Kd.R_reads' HO127.out).2.2)
      (case side6 => exact (Kd.R_reads' HO127.out).2.1)
      (case side7 => exact pC (Kd.S_reads' HO130.out).2.2)
      (case side8 => exact (Kd.S_reads' HO130.out).2.1)
      rintro e w44 ⟨rfl, hb⟩
      refine ⟨_, rfl, ?_⟩
      have n0_ := Aside0.mk (Kd.R_below (pY53) hb)
      have n1_ := Aside0.mk (Kd.R_below (pY56) hb)
      have n2_ := Aside0.mk (Kd.R_below (pY43) hb)
      have n3_ := Aside0.mk (Kd.S_below (by (with_reducible repeat (first | apply Kd.S_alloc | apply Kd.S_drewN | apply Kd.S_drew)); exact HO_120001.out) hb)
      have n4_ := Aside0.mk (Kd.R_below (by (with_reducible repeat (first | apply Kd.R_alloc | apply Kd.R_drewN | apply Kd.R_drew)); exact HO127.out) hb)
      have n5_ := Aside0.mk (Kd.S_below (by (with_reducible repeat (first | apply Kd.S_alloc | apply Kd.S_drewN | apply Kd.S_drew)); exact HO130.out) hb)
      have n6_ := Aside0.mk (blk_below (g := gb101) (o := .cells #[.slice A0_0 l0_0.length c0_0, .slice A0_1 l0_1.length c0_1] 26 (0, 0)) (pY40) hb)
      have n7_ := Aside0.mk (blk_below (g := gb119) (o := .cells #[.slice Ao23 t113.length co23, .slice Ao26 t116.length co26] 31 (0, 0)) (by (with_reducible repeat (first | refine blk_drewN ?_ _ | refine blk_drew ?_ | refine blk_alloc ?_ _)); exact BK119.out) hb)
      have n8_ := Aside0.mk (below_step (pY35) hb)
      clear HO_4
      clear HO_7
      clear HO_120000
      clear HO_120001
      clear HO127
      clear HO130
      clear BK101
      clear BK119
      clear HB
      have HO_4 := n0_
      have HO_7 := n1_
      have HO_120000 := n2_
      have HO_120001 := n3_
      have HO127 := n4_
      have HO130 := n5_
      have BK101 := n6_
      have BK119 := n7_
      have HB := n8_
      clear n0_ n1_ n2_ n3_ n4_ n5_ n6_ n7_ n8_
      (try clear hb)
      (try clear hb2)
      (try clear hk)
      (try clear hi)
      refine hK.out _ _ ⟨(blk_cell BK119.out 0).trans rfl, (blk_cell BK119.out 1).trans rfl, (blk_cell BK101.out 0).trans rfl, (blk_cell BK101.out 1).trans rfl⟩ (fun hHeld => ?_)
      clear hK K
      refine norm_ (a' := ?_) ?_ ?_
      rotate_left
      ·show Act.put _ (some 44) _ = _
       simp only [pW]
       rfl
      refine pU0 (i := 4) (N := some 45) #[true, true, true, true, true] ?_
      refine done_ (by kernel_rfl) ?_
      have hnb45 := NB119_101.out
      have hnc45 := NB101_119.out
      have hcz46_0 : w44.cell? ⟨gb119, 0, none⟩ = some (.slice Ao23 t113.length co23) := (blk_cell BK119.out 0).trans rfl
      have hcz46_1 : w44.cell? ⟨gb119, 1, none⟩ = some (.slice Ao26 t116.length co26) := (blk_cell BK119.out 1).trans rfl
      have hfz46_0 := blk_frozen BK119.out 0
      have hfz46_1 := blk_frozen BK119.out 1
      go_upto_region 14 with (first | ((with_reducible refine gate_callee (f := 39) rfl ?_); refine goesL_ (some 48) rfl rfl Try.func39 (by kernel_rfl) rfl #[.agg #[.slice Ao23 t113.length co23, .slice Ao26 t116.length co26], .int .i64 1] rfl (pY38) ?_; (with_reducible refine (laws_markShareBook.calls kj10 (fun k_ => some k_ = (.slice Ao23 t113.length co23 : Value).ownBlock) (.slice Ao23 t113.length co23) t113 ?pN_ (.slice Ao26 t116.length co26) t116 1 t132 w _ ?side1 ?side2 ?side3 ?side4 A38.out).mono ?_); (case side1 => repeat (first | (with_reducible first | exact HB.out | apply below_alloc | apply pw_below_drewN | apply below_drew1 | refine below_set ?_ GE101.out | refine below_set ?_ GE119.out) | exact HB.out)); (case side2 => exact Kd.R_tight rfl HO_120000.out); (case side3 => exact Kd.S_bound (HO_120001.out)); (case side4 => exact fun k_ h_ e_ => (h_.1.1.1.2.2) e_); rintro e w47 ⟨rfl, hb, hkp⟩; refine ⟨_, rfl, ?_⟩; have n0_ := Aside0.mk (Kd.R_mono (ok' := fun k_ => some k_ ≠ (v121 : Value).ownBlock ∧ some k_ ≠ (.slice Ao42 t125.length co42 : Value).ownBlock) (Kd.R_keptB ((Kd.R_tight2 rfl HO_4.out)) hkp (fun k_ hk_ hs_ => Or.elim hs_ (fun e_ => (hk_.2.1.2) e_) (fun e_ => (fun hs_ => (hs_.1.1.1.1) hk_.1) e_))) (fun k_ hk_ => ⟨hk_.1.2.1.1, hk_.1.2.2⟩)); have n1_ := Aside0.mk (Kd.R_mono (ok' := fun k_ => some k_ ≠ (v110 : Value).ownBlock ∧ some k_ ≠ (.slice Ao42 t125.length co42 : Value).ownBlock) (Kd.R_keptB ((Kd.R_tight2 rfl HO_7.out)) hkp (fun k_ hk_ hs_ => Or.elim hs_ (fun e_ => (hk_.2.1.2) e_) (fun e_ => (fun hs_ => (hs_.1.1.1.2.1) hk_.1) e_))) (fun k_ hk_ => ⟨hk_.1.2.1.1, hk_.1.2.2⟩)); have n2_ := Aside0.mk (blk_kept (pY40) hkp (fun hs_ => Or.elim hs_ (fun e_ => (fun e_ => (Kd.R_ne HO_120000.out BK101.out (by decide)) e_) e_) (fun e_ => (fun hs_ => by (obtain ⟨_, _, _, q_, hq_, c_, hc_⟩ := hs_; have hb_ := (pY40); rw [hb_] at hc_; injection hc_ with hc_; injection hc_ with _ ht_ _; subst ht_; exact absurd hq_ (by decide))) e_))); have n3_ := Aside0.mk (blk_kept (by (with_reducible repeat (first | refine blk_drewN ?_ _ | refine blk_drew ?_ | refine blk_alloc ?_ _)); exact BK119.out) hkp (fun hs_ => Or.elim hs_ (fun e_ => (fun e_ => (Kd.R_ne HO_120000.out BK119.out (by decide)) e_) e_) (fun e_ => (fun hs_ => by (obtain ⟨_, _, _, q_, hq_, c_, hc_⟩ := hs_; have hb_ := (by (with_reducible repeat (first | refine blk_drewN ?_ _ | refine blk_drew ?_ | refine blk_alloc ?_ _)); exact BK119.out); rw [hb_] at hc_; injection hc_ with hc_; injection hc_ with _ ht_ _; subst ht_; exact absurd hq_ (by decide))) e_))); have n4_ := Aside0.mk (Kd.R_mono (ok' := fun k_ => some k_ ≠ (v110 : Value).ownBlock ∧ some k_ ≠ (v121 : Value).ownBlock) (Kd.R_keptB ((Kd.R_tight2 rfl HO127.out)) hkp (fun k_ hk_ hs_ => Or.elim hs_ (fun e_ => (hk_.2.2) e_) (fun e_ => (fun hs_ => (hs_.1.1.2) hk_.1) e_))) (fun k_ hk_ => ⟨hk_.1.2.1.1.2, hk_.1.2.1.2⟩)); have n5_ := Aside0.mk (hb); clear HO_4; clear HO_7; clear BK101; clear BK119; clear HO127; clear HB; clear HO130; clear HO_120000; clear HO_120001; have HO_4 := n0_; have HO_7 := n1_; have BK101 := n2_; have BK119 := n3_; have HO127 := n4_; have HB := n5_; clear n0_ n1_ n2_ n3_ n4_ n5_; (try clear hb); (try clear hkp)))
      (try simp only [Act.put, List.setIfInBounds_toArray, List.set_cons_zero, List.set_cons_succ])
      go_cut [61] (fun v61 wc => ∃ (kq : Nat) (x61_38 : Bool), v61 = .bool x61_38 ∧ Aside0 (laws_FnExactShareOrder.j1 kq t109 t112 t120 x61_38 l0_0 l0_1 = some r) ∧ Aside0 (kq ≤ kj10) ∧ Aside0 (Kd.R Kd.string 9 wc w.heap.size (fun k_ => some k_ ≠ (v121 : Value).ownBlock) v110 t109) ∧ Aside0 (Kd.R Kd.string 9 wc w.heap.size (fun k_ => some k_ ≠ (v110 : Value).ownBlock) v121 t120) ∧ Aside0 (wc.heap[gb101]? = some (.cells #[(.slice A0_0 l0_0.length c0_0), (.slice A0_1 l0_1.length c0_1)] 26 (0, 0))) ∧ Aside0 (Below w.heap.size w wc))
      case first =>
       have H := HC39.out
       clear HC39
       by_cases c48 : t132 < 0
       ·rw [if_pos c48] at H
        have c48b0 : decide (t132 < 0) = true := decide_eq_true c48
        clear c48
        (first | rw [c48b0] | (simp only [i64_w, i32_w]; rw [c48b0]) | skip)
        have H' := Aside0.mk H
        clear H
        go_wp2
        go_meet
        case rel => exact ⟨_, (true), (pY59), H', ⟨by have := HJ10.out; first | omega | exact Nat.le_refl _⟩, ⟨by (with_reducible repeat (first | apply Kd.R_alloc | apply Kd.R_drewN | apply Kd.R_drew)); exact Kd.R_mono HO_4.out (fun _ hk => hk.1)⟩, ⟨by (with_reducible repeat (first | apply Kd.R_alloc | apply Kd.R_drewN | apply Kd.R_drew)); exact Kd.R_mono HO_7.out (fun _ hk => hk.1)⟩, ⟨by (with_reducible repeat (first | refine blk_drewN ?_ _ | refine blk_drew ?_ | refine blk_alloc ?_ _)); exact BK101.out⟩, ⟨pY35⟩⟩
       ·rw [if_neg c48] at H
        have c48b0 : decide (t132 < 0) = false := decide_eq_false c48
        clear c48
        (first | rw [c48b0] | (simp only [i64_w, i32_w]; rw [c48b0]) | skip)
        replace H := Option.bind_eq_some_iff.mp H
        obtain ⟨t133, A490, H⟩ := H
        replace H : (if t133 = true then (laws_FnExactShareOrder.j1 kj10 t109 t112 t120 (t123 != t112) l0_0 l0_1) else (laws_FnExactShareOrder.j1 kj10 t109 t112 t120 true l0_0 l0_1)) = some r := H
        have A49 := Aside0.mk A490
        clear A490
        by_cases c50 : t133 = true
        ·subst c50
         have H1 : (laws_FnExactShareOrder.j1 kj10 t109 t112 t120 (t123 != t112) l0_0 l0_1) = some r := by rw [if_pos rfl] at H; exact H
         clear H
         have H := H1
         clear H1
         have H' := Aside0.mk H
         clear H
         obtain ⟨Ao51, co51, eo51⟩ := Kd.R_slice HO_7.out
         subst eo51
         obtain ⟨Ao52, co52, eo52⟩ := Kd.R_slice HO_4.out
         subst eo52
         go_wp2_with (first | (go_at_call 34; (with_reducible refine (laws_eqStringS.calls kj10 _ _ t120 _ _ t109 true _ ?side1 ?side2 ?side3 ?side4 A49.out).mono ?_); (case side1 => exact pC (Kd.R_reads' HO_7.out).2.2); (case side2 => exact (Kd.R_reads' HO_7.out).2.1); (case side3 => exact pC (Kd.R_reads' HO_4.out).2.2); (case side4 => exact (Kd.R_reads' HO_4.out).2.1); rintro e w' ⟨rfl, ⟨nd, rfl⟩⟩))
         go_meet
         case rel => exact ⟨_, ((t123 != t112)), (pY59), H', ⟨by have := HJ10.out; first | omega | exact Nat.le_refl _⟩, ⟨by (with_reducible repeat (first | apply Kd.R_alloc | apply Kd.R_drewN | apply Kd.R_drew)); exact Kd.R_mono HO_4.out (fun _ hk => hk.1)⟩, ⟨by (with_reducible repeat (first | apply Kd.R_alloc | apply Kd.R_drewN | apply Kd.R_drew)); exact Kd.R_mono HO_7.out (fun _ hk => hk.1)⟩, ⟨by (with_reducible repeat (first | refine blk_drewN ?_ _ | refine blk_drew ?_ | refine blk_alloc ?_ _)); exact BK101.out⟩, ⟨pY35⟩⟩
        ·replace c50 := Bool.eq_false_iff.mpr c50
         subst c50
         have H1 : (laws_FnExactShareOrder.j1 kj10 t109 t112 t120 true l0_0 l0_1) = some r := by rw [if_neg (show ¬ (false = true) by decide)] at H; exact H
         clear H
         have H := H1
         clear H1
         have H' := Aside0.mk H
         clear H
         obtain ⟨Ao53, co53, eo53⟩ := Kd.R_slice HO_7.out
         subst eo53
         obtain ⟨Ao54, co54, eo54⟩ := Kd.R_slice HO_4.out
         subst eo54
         go_wp2_with (first | (go_at_call 34; (with_reducible refine (laws_eqStringS.calls kj10 _ _ t120 _ _ t109 false _ ?side1 ?side2 ?side3 ?side4 A49.out).mono ?_); (case side1 => exact pC (Kd.R_reads' HO_7.out).2.2); (case side2 => exact (Kd.R_reads' HO_7.out).2.1); (case side3 => exact pC (Kd.R_reads' HO_4.out).2.2); (case side4 => exact (Kd.R_reads' HO_4.out).2.1); rintro e w' ⟨rfl, ⟨nd, rfl⟩⟩))
         go_meet
         case rel => exact ⟨_, (true), (pY59), H', ⟨by have := HJ10.out; first | omega | exact Nat.le_refl _⟩, ⟨by (with_reducible repeat (first | apply Kd.R_alloc | apply Kd.R_drewN | apply Kd.R_drew)); exact Kd.R_mono HO_4.out (fun _ hk => hk.1)⟩, ⟨by (with_reducible repeat (first | apply Kd.R_alloc | apply Kd.R_drewN | apply Kd.R_drew)); exact Kd.R_mono HO_7.out (fun _ hk => hk.1)⟩, ⟨by (with_reducible repeat (first | refine blk_drewN ?_ _ | refine blk_drew ?_ | refine blk_alloc ?_ _)); exact BK101.out⟩, ⟨pY35⟩⟩
      case rest =>
       clear HC39
       try clear c1
       try clear c2
       try clear p2
       try clear c3
       try clear c3b0
       try clear c4
       try clear c5
       try clear c11
       try clear c21
       try clear c23
       try clear c24
       try clear c25
       try clear c29
       try clear c34
       try clear c37
       try clear c39
       try clear c44
       try clear c45
       try clear c48
       try clear c48b0
       try clear c50
       try clear hcz13_0
       try clear hcz13_1
       try clear hcz15_0
       try clear hcz15_1
       try clear hcz20_0
       try clear hcz20_1
       try clear hcz25_0
       try clear hcz25_1
       try clear hcz46_0
       try clear hcz46_1
       try clear hcz5_0
       try clear hcz5_1
       try clear hfz13_0
       try clear hfz13_1
       try clear hfz15_0
       try clear hfz15_1
       try clear hfz20_0
       try clear hfz20_1
       try clear hfz25_0
       try clear hfz25_1
       try clear hfz46_0
       try clear hfz46_1
       try clear hfz5_0
       try clear hfz5_1
       try clear p2
       obtain ⟨kq, x61_38, rfl, HA, HJ38, HO_4, HO_7, BK101, HB⟩ := hcut
       cases kq with
       | zero => exact absurd HA.out (by simp [laws_FnExactShareOrder.j1])
       | succ kj38 =>
        have H := HA.out
        clear HA
        simp only [laws_FnExactShareOrder.j1] at H
        by_cases c55 : x61_38 = true
        ·subst c55
         have H1 : (some false) = some r := by rw [if_pos rfl] at H; exact H
         clear H
         have H := H1
         clear H1
         obtain rfl := Option.some.inj H
         go_wp2
         go_ret
         exact ⟨by first | rfl | (simp [errW_none, errW_some] <;> rfl) | (simp [*, errW_none, errW_some] <;> rfl), pY37⟩
        ·replace c55 := Bool.eq_false_iff.mpr c55
         subst c55
         have H1 : ((laws_markStringS.f kj38 t120 1).bind fun bt134 => ((laws_heldStringS.f kj38 bt134.2 1).bind fun t136 => (if t136 < 0 then (some false) else (if t136 = bt134.1 then ((laws_toShareBook.f kj38 l0_0 l0_1).bind fun bt137 => ((impl_ShareOrder.f kj38 bt137.1 bt137.2).bind fun bt143 => ((laws_eqStringS.f kj38 bt143.1 t109).bind fun t147 => (if t147 = true then (laws_FnExactShareOrder.j2 kj38 bt134.2 bt134.1 (bt143.2 != t112)) else (laws_FnExactShareOrder.j2 kj38 bt134.2 bt134.1 true))))) else (some false))))) = some r := by rw [if_neg (show ¬ (false = true) by decide)] at H; exact H
         clear H
         have H := H1
         clear H1
         replace H := Option.bind_eq_some_iff.mp H
         obtain ⟨⟨t134, t135⟩, A560, H⟩ := H
         replace H : ((laws_heldStringS.f kj38 t135 1).bind fun t136 => (if t136 < 0 then (some false) else (if t136 = t134 then ((laws_toShareBook.f kj38 l0_0 l0_1).bind fun bt137 => ((impl_ShareOrder.f kj38 bt137.1 bt137.2).bind fun bt143 => ((laws_eqStringS.f kj38 bt143.1 t109).bind fun t147 => (if t147 = true then (laws_FnExactShareOrder.j2 kj38 t135 t134 (bt143.2 != t112)) else (laws_FnExactShareOrder.j2 kj38 t135 t134 true))))) else (some false)))) = some r := H
         have A56 := Aside0.mk A560
         clear A560
         replace H := Option.bind_eq_some_iff.mp H
         obtain ⟨t136, A570, H⟩ := H
         replace H : (if t136 < 0 then (some false) else (if t136 = t134 then ((laws_toShareBook.f kj38 l0_0 l0_1).bind fun bt137 => ((impl_ShareOrder.f kj38 bt137.1 bt137.2).bind fun bt143 => ((laws_eqStringS.f kj38 bt143.1 t109).bind fun t147 => (if t147 = true then (laws_FnExactShareOrder.j2 kj38 t135 t134 (bt143.2 != t112)) else (laws_FnExactShareOrder.j2 kj38 t135 t134 true))))) else (some false))) = some r := H
         have A57 := Aside0.mk A570
         clear A570
         by_cases c58 : t136 < 0
         ·rw [if_pos c58] at H
          have c58b0 : decide (t136 < 0) = true := decide_eq_true c58
          clear c58
          obtain rfl := Option.some.inj H
          obtain ⟨Ao59, co59, eo59⟩ := Kd.R_slice HO_7.out
          subst eo59
          go_wp2_with (first | ((with_reducible refine gate_callee (f := 40) rfl ?_); refine goesL_ (some 64) rfl rfl Try.func40 (by kernel_rfl) rfl #[.slice Ao59 t120.length co59, .int .i64 1] rfl (pY38) ?_; (with_reducible refine (laws_markStringS.calls kj38 (fun k_ => some k_ = (.slice Ao59 t120.length co59 : Value).ownBlock) (.slice Ao59 t120.length co59) t120 1 t134 t135 w _ ?side1 ?side2 A56.out).mono ?_); (case side1 => repeat (first | (with_reducible first | exact HB.out | apply below_alloc | apply pw_below_drewN | apply below_drew1 | refine below_set ?_ GE101.out) | exact HB.out)); (case side2 => exact Kd.R_tight rfl HO_7.out); rintro e w60 ⟨rfl, hy0, hb, hkp⟩; refine ⟨_, rfl, ?_⟩; have n0_ := Aside0.mk (Kd.R_mono (ok' := fun k_ => some k_ ≠ (.slice Ao59 t120.length co59 : Value).ownBlock) (Kd.R_keptB (HO_4.out) hkp (fun k_ hk_ hs_ => (hk_) hs_)) (fun k_ hk_ => hk_.1)); have n1_ := Aside0.mk (Kd.R_reok rfl hy0 (fun k_ e_ => HO_7.out.1 k_ e_)); have n2_ := Aside0.mk (blk_kept (pY40) hkp (fun hs_ => (fun e_ => (Kd.R_ne HO_7.out BK101.out (by decide)) e_) hs_)); have n3_ := Aside0.mk (hb); clear HO_4; clear HO_7; clear BK101; clear HB; have HO_4 := n0_; have HO_7 := n1_; have BK101 := n2_; have HB := n3_; clear n0_ n1_ n2_ n3_; (try clear hb); (try clear hkp); (try clear hy0)) | ((with_reducible refine gate_callee (f := 41) rfl ?_); refine goesL_ (some 67) rfl rfl Try.func41 (by kernel_rfl) rfl #[.slice Ao59 t135.length co59, .int .i64 1] rfl (by (try simp only [List.map_toArray, List.map_cons, List.map_nil]); first | done | (rw [show t135.length = t120.length from (Kd.R_reads' HO_7.out).1.symm] <;> rfl) | rfl | (simp only [List.length_drop, List.length_take]; rfl)) ?_; (with_reducible refine (laws_heldStringS.calls kj38 _ _ t135 1 t136 _ ?side1 ?side2 A57.out).mono ?_); (case side1 => exact pC (Kd.R_reads' HO_7.out).2.2); (case side2 => rw [show t135.length = t120.length from (Kd.R_reads' HO_7.out).1.symm]; exact (Kd.R_reads' HO_7.out).2.1); rintro e w61 ⟨rfl, hb⟩; refine ⟨_, rfl, ?_⟩; have n0_ := Aside0.mk (Kd.R_below (pY53) hb); have n1_ := Aside0.mk (Kd.R_below (pY56) hb); have n2_ := Aside0.mk (blk_below (g := gb101) (o := .cells #[.slice A0_0 l0_0.length c0_0, .slice A0_1 l0_1.length c0_1] 26 (0, 0)) (pY40) hb); have n3_ := Aside0.mk (below_step (pY37) hb); clear HO_4; clear HO_7; clear BK101; clear HB; have HO_4 := n0_; have HO_7 := n1_; have BK101 := n2_; have HB := n3_; clear n0_ n1_ n2_ n3_; (try clear hb); (try clear hb2); (try clear hk); (try clear hi)))
          go_ret
          exact ⟨by first | rfl | (simp [errW_none, errW_some] <;> rfl) | (simp [*, errW_none, errW_some] <;> rfl), pY37⟩
         ·rw [if_neg c58] at H
          have c58b0 : decide (t136 < 0) = false := decide_eq_false c58
          clear c58
          by_cases c62 : t136 = t134
          ·rw [if_pos c62] at H
           have c62b0 : (t136 == t134) = true := beq_iff_eq.mpr c62
           have c62b1 : (t136 != t134) = false := bne_eq_false_iff_eq.mpr c62
           clear c62
           replace H := Option.bind_eq_some_iff.mp H
           obtain ⟨⟨t137, t140⟩, A630, H⟩ := H
           replace H : ((impl_ShareOrder.f kj38 t137 t140).bind fun bt143 => ((laws_eqStringS.f kj38 bt143.1 t109).bind fun t147 => (if t147 = true then (laws_FnExactShareOrder.j2 kj38 t135 t134 (bt143.2 != t112)) else (laws_FnExactShareOrder.j2 kj38 t135 t134 true)))) = some r := H
           have A63 := Aside0.mk A630
           clear A630
           replace H := Option.bind_eq_some_iff.mp H
           obtain ⟨⟨t143, t146⟩, A640, H⟩ := H
           replace H : ((laws_eqStringS.f kj38 t143 t109).bind fun t147 => (if t147 = true then (laws_FnExactShareOrder.j2 kj38 t135 t134 (t146 != t112)) else (laws_FnExactShareOrder.j2 kj38 t135 t134 true))) = some r := H
           have A64 := Aside0.mk A640
           clear A640
           have HC65 := Aside0.mk H
           clear H
           obtain ⟨Ao66, co66, eo66⟩ := Kd.R_slice HO_7.out
           subst eo66
           go_upto_region 25 with (first | ((with_reducible refine gate_callee (f := 40) rfl ?_); refine goesL_ (some 64) rfl rfl Try.func40 (by kernel_rfl) rfl #[.slice Ao66 t120.length co66, .int .i64 1] rfl (pY38) ?_; (with_reducible refine (laws_markStringS.calls kj38 (fun k_ => some k_ = (.slice Ao66 t120.length co66 : Value).ownBlock) (.slice Ao66 t120.length co66) t120 1 t134 t135 w _ ?side1 ?side2 A56.out).mono ?_); (case side1 => repeat (first | (with_reducible first | exact HB.out | apply below_alloc | apply pw_below_drewN | apply below_drew1 | refine below_set ?_ GE101.out) | exact HB.out)); (case side2 => exact Kd.R_tight rfl HO_7.out); rintro e w67 ⟨rfl, hy0, hb, hkp⟩; refine ⟨_, rfl, ?_⟩; have n0_ := Aside0.mk (Kd.R_mono (ok' := fun k_ => some k_ ≠ (.slice Ao66 t120.length co66 : Value).ownBlock) (Kd.R_keptB (HO_4.out) hkp (fun k_ hk_ hs_ => (hk_) hs_)) (fun k_ hk_ => hk_.1)); have n1_ := Aside0.mk (Kd.R_reok rfl hy0 (fun k_ e_ => HO_7.out.1 k_ e_)); have n2_ := Aside0.mk (blk_kept (pY40) hkp (fun hs_ => (fun e_ => (Kd.R_ne HO_7.out BK101.out (by decide)) e_) hs_)); have n3_ := Aside0.mk (hb); clear HO_4; clear HO_7; clear BK101; clear HB; have HO_4 := n0_; have HO_7 := n1_; have BK101 := n2_; have HB := n3_; clear n0_ n1_ n2_ n3_; (try clear hb); (try clear hkp); (try clear hy0)) | ((with_reducible refine gate_callee (f := 41) rfl ?_); refine goesL_ (some 67) rfl rfl Try.func41 (by kernel_rfl) rfl #[.slice Ao66 t135.length co66, .int .i64 1] rfl (by (try simp only [List.map_toArray, List.map_cons, List.map_nil]); first | done | (rw [show t135.length = t120.length from (Kd.R_reads' HO_7.out).1.symm] <;> rfl) | rfl | (simp only [List.length_drop, List.length_take]; rfl)) ?_; (with_reducible refine (laws_heldStringS.calls kj38 _ _ t135 1 t136 _ ?side1 ?side2 A57.out).mono ?_); (case side1 => exact pC (Kd.R_reads' HO_7.out).2.2); (case side2 => rw [show t135.length = t120.length from (Kd.R_reads' HO_7.out).1.symm]; exact (Kd.R_reads' HO_7.out).2.1); rintro e w68 ⟨rfl, hb⟩; refine ⟨_, rfl, ?_⟩; have n0_ := Aside0.mk (Kd.R_below (pY53) hb); have n1_ := Aside0.mk (Kd.R_below (pY56) hb); have n2_ := Aside0.mk (blk_below (g := gb101) (o := .cells #[.slice A0_0 l0_0.length c0_0, .slice A0_1 l0_1.length c0_1] 26 (0, 0)) (pY40) hb); have n3_ := Aside0.mk (below_step (pY37) hb); clear HO_4; clear HO_7; clear BK101; clear HB; have HO_4 := n0_; have HO_7 := n1_; have BK101 := n2_; have HB := n3_; clear n0_ n1_ n2_ n3_; (try clear hb); (try clear hb2); (try clear hk); (try clear hi); have hcz69_0 : w68.cell? ⟨gb101, 0, none⟩ = some (.slice A0_0 l0_0.length c0_0) := (blk_cell BK101.out 0).trans rfl; have hcz69_1 : w68.cell? ⟨gb101, 1, none⟩ = some (.slice A0_1 l0_1.length c0_1) := (blk_cell BK101.out 1).trans rfl; have hfz69_0 := blk_frozen BK101.out 0; have hfz69_1 := blk_frozen BK101.out 1) | ((with_reducible refine gate_callee (f := 23) rfl ?_); refine goesL_ (some 75) rfl rfl Try.func23 (by kernel_rfl) rfl #[.agg #[.slice A0_0 l0_0.length c0_0, .slice A0_1 l0_1.length c0_1]] rfl (pY38) ?_; (with_reducible refine (laws_toShareBook.calls kj38 _ _ l0_0 _ _ l0_1 t137 t140 _ ?side1 ?side2 ?side3 ?side4 A63.out).mono ?_); (case side1 => exact pC (Kd.C_below HR0_0.out HB.out)); (case side2 => exact HC0_0.out); (case side3 => exact pC (Kd.C_below HR0_1.out HB.out)); (case side4 => exact HC0_1.out); rintro e w70 ⟨v138, v141, rfl, ho0, ho1, hb⟩; refine ⟨_, rfl, ?_⟩; have n0_ := Aside0.mk (Kd.R_elder' (pY53) (Kd.R_base ho0) hb); have n1_ := Aside0.mk (Kd.R_elder' (pY56) (Kd.R_base ho0) hb); have n2_ := Aside0.mk (Kd.R_lower (Kd.R_new' (Kd.R_new' ho0 (Kd.R_lt (pY53))) (Kd.R_lt (pY56))) (below_size (pY37))); have n3_ := Aside0.mk (Kd.S_lower (Kd.S_new' (Kd.S_new' ho1 (Kd.R_lt (pY53))) (Kd.R_lt (pY56))) (below_size (pY37))); have n4_ := Aside0.mk (blk_below (g := gb101) (o := .cells #[.slice A0_0 l0_0.length c0_0, .slice A0_1 l0_1.length c0_1] 26 (0, 0)) (pY40) hb); have n5_ := Aside0.mk (below_step (pY37) hb); clear HO_4; clear HO_7; clear BK101; clear HB; have HO_4 := n0_; have HO_7 := n1_; have HO139 := n2_; have HO142 := n3_; have BK101 := n4_; have HB := n5_; clear n0_ n1_ n2_ n3_ n4_ n5_; (try clear hb); (try clear hb2); (try clear hk); (try clear hi); (try clear ho0); (try clear ho1); obtain ⟨Ao71, co71, eo71⟩ := Kd.R_slice HO139.out; subst eo71; obtain ⟨Ao72, co72, eo72⟩ := Kd.S_slice HO142.out; subst eo72) | ((with_reducible refine gate_callee (f := 45) rfl ?_); refine goesL_ (some 76) rfl rfl Try.func45 (by kernel_rfl) rfl #[.agg #[.slice Ao71 t137.length co71, .slice Ao72 t140.length co72]] rfl (pY38) ?_; (with_reducible refine (impl_ShareOrder.calls kj38 _ _ t137 _ _ t140 t143 t146 _ ?side1 ?side2 ?side3 ?side4 A64.out).mono ?_); (case side1 => exact pC (Kd.R_reads' HO139.out).2.2); (case side2 => exact (Kd.R_reads' HO139.out).2.1); (case side3 => exact pC (Kd.S_reads' HO142.out).2.2); (case side4 => exact (Kd.S_reads' HO142.out).2.1); rintro e w73 ⟨v144, rfl, ho0, hb⟩; refine ⟨_, rfl, ?_⟩; have n0_ := Aside0.mk (Kd.R_elder' (pY53) (Kd.R_base ho0) hb); have n1_ := Aside0.mk (Kd.R_elder' (pY56) (Kd.R_base ho0) hb); have n2_ := Aside0.mk (Kd.R_elder' (by (with_reducible repeat (first | apply Kd.R_alloc | apply Kd.R_drewN | apply Kd.R_drew)); exact HO139.out) (Kd.R_base ho0) hb); have n3_ := Aside0.mk (Kd.S_elder' (by (with_reducible repeat (first | apply Kd.S_alloc | apply Kd.S_drewN | apply Kd.S_drew)); exact HO142.out) (Kd.R_base ho0) hb); have n4_ := Aside0.mk (Kd.R_lower (Kd.R_new' (Kd.R_new' (Kd.R_new' ho0 (Kd.R_lt (pY53))) (Kd.R_lt (pY56))) (Kd.R_lt (by (with_reducible repeat (first | apply Kd.R_alloc | apply Kd.R_drewN | apply Kd.R_drew)); exact HO139.out))) (below_size (pY37))); have n5_ := Aside0.mk (blk_below (g := gb101) (o := .cells #[.slice A0_0 l0_0.length c0_0, .slice A0_1 l0_1.length c0_1] 26 (0, 0)) (pY40) hb); have n6_ := Aside0.mk (below_step (pY37) hb); clear HO_4; clear HO_7; clear HO139; clear HO142; clear BK101; clear HB; have HO_4 := n0_; have HO_7 := n1_; have HO139 := n2_; have HO142 := n3_; have HO145 := n4_; have BK101 := n5_; have HB := n6_; clear n0_ n1_ n2_ n3_ n4_ n5_ n6_; (try clear hb); (try clear hb2); (try clear hk); (try clear hi); (try clear ho0)))
           (try simp only [Act.put, List.setIfInBounds_toArray, List.set_cons_zero, List.set_cons_succ])
           go_cut [87] (fun v87 wc => ∃ (kq : Nat) (x87_64 : Bool), v87 = .bool x87_64 ∧ Aside0 (laws_FnExactShareOrder.j2 kq t135 t134 x87_64 = some r) ∧ Aside0 (kq ≤ kj38) ∧ Aside0 (Kd.R Kd.string 9 wc w.heap.size (fun _ => True) (.slice Ao66 t120.length co66) t135) ∧ Aside0 (wc.heap[gb101]? = some (.cells #[(.slice A0_0 l0_0.length c0_0), (.slice A0_1 l0_1.length c0_1)] 26 (0, 0))) ∧ Aside0 (Below w.heap.size w wc))
           case first =>
            have H := HC65.out
            clear HC65
            replace H := Option.bind_eq_some_iff.mp H
            obtain ⟨t147, A740, H⟩ := H
            replace H : (if t147 = true then (laws_FnExactShareOrder.j2 kj38 t135 t134 (t146 != t112)) else (laws_FnExactShareOrder.j2 kj38 t135 t134 true)) = some r := H
            have A74 := Aside0.mk A740
            clear A740
            by_cases c75 : t147 = true
            ·subst c75
             have H1 : (laws_FnExactShareOrder.j2 kj38 t135 t134 (t146 != t112)) = some r := by rw [if_pos rfl] at H; exact H
             clear H
             have H := H1
             clear H1
             have H' := Aside0.mk H
             clear H
             obtain ⟨Ao76, co76, eo76⟩ := Kd.R_slice HO145.out
             subst eo76
             obtain ⟨Ao77, co77, eo77⟩ := Kd.R_slice HO_4.out
             subst eo77
             go_wp2_with (first | ((with_reducible refine gate_callee (f := 34) rfl ?_); refine goesL_ (some 81) rfl rfl Try.func34 (by kernel_rfl) rfl #[.slice Ao76 t143.length co76, .slice Ao77 t109.length co77] rfl (pY38) ?_; (with_reducible refine (laws_eqStringS.calls kj38 _ _ t143 _ _ t109 true _ ?side1 ?side2 ?side3 ?side4 A74.out).mono ?_); (case side1 => exact pC (Kd.R_reads' HO145.out).2.2); (case side2 => exact (Kd.R_reads' HO145.out).2.1); (case side3 => exact pC (Kd.R_reads' HO_4.out).2.2); (case side4 => exact (Kd.R_reads' HO_4.out).2.1); rintro e w' ⟨rfl, ⟨nd, rfl⟩⟩; refine ⟨_, rfl, ?_⟩))
             go_meet
             case rel => exact ⟨_, ((t146 != t112)), (pY59), H', ⟨by have := HJ10.out; have := HJ38.out; first | omega | exact Nat.le_refl _⟩, ⟨by (with_reducible repeat (first | apply Kd.R_alloc | apply Kd.R_drewN | apply Kd.R_drew)); exact Kd.R_mono HO_7.out (fun _ hk => trivial)⟩, ⟨by (with_reducible repeat (first | refine blk_drewN ?_ _ | refine blk_drew ?_ | refine blk_alloc ?_ _)); exact BK101.out⟩, ⟨pY37⟩⟩
            ·replace c75 := Bool.eq_false_iff.mpr c75
             subst c75
             have H1 : (laws_FnExactShareOrder.j2 kj38 t135 t134 true) = some r := by rw [if_neg (show ¬ (false = true) by decide)] at H; exact H
             clear H
             have H := H1
             clear H1
             have H' := Aside0.mk H
             clear H
             obtain ⟨Ao78, co78, eo78⟩ := Kd.R_slice HO145.out
             subst eo78
             obtain ⟨Ao79, co79, eo79⟩ := Kd.R_slice HO_4.out
             subst eo79
             go_wp2_with (first | ((with_reducible refine gate_callee (f := 34) rfl ?_); refine goesL_ (some 81) rfl rfl Try.func34 (by kernel_rfl) rfl #[.slice Ao78 t143.length co78, .slice Ao79 t109.length co79] rfl (pY38) ?_; (with_reducible refine (laws_eqStringS.calls kj38 _ _ t143 _ _ t109 false _ ?side1 ?side2 ?side3 ?side4 A74.out).mono ?_); (case side1 => exact pC (Kd.R_reads' HO145.out).2.2); (case side2 => exact (Kd.R_reads' HO145.out).2.1); (case side3 => exact pC (Kd.R_reads' HO_4.out).2.2); (case side4 => exact (Kd.R_reads' HO_4.out).2.1); rintro e w' ⟨rfl, ⟨nd, rfl⟩⟩; refine ⟨_, rfl, ?_⟩))
             go_meet
             case rel => exact ⟨_, (true), (pY59), H', ⟨by have := HJ10.out; have := HJ38.out; first | omega | exact Nat.le_refl _⟩, ⟨by (with_reducible repeat (first | apply Kd.R_alloc | apply Kd.R_drewN | apply Kd.R_drew)); exact Kd.R_mono HO_7.out (fun _ hk => trivial)⟩, ⟨by (with_reducible repeat (first | refine blk_drewN ?_ _ | refine blk_drew ?_ | refine blk_alloc ?_ _)); exact BK101.out⟩, ⟨pY37⟩⟩
           case rest =>
            clear HC65
            try clear c1
            try clear c2
            try clear p2
            try clear c3
            try clear c3b0
            try clear c4
            try clear c5
            try clear c6
            try clear c7
            try clear c11
            try clear c21
            try clear c23
            try clear c24
            try clear c25
            try clear c29
            try clear c34
            try clear c37
            try clear c39
            try clear c40
            try clear c41
            try clear c44
            try clear c45
            try clear c48
            try clear c48b0
            try clear c50
            try clear c55
            try clear c58
            try clear c58b0
            try clear c62
            try clear c62b0
            try clear c62b1
            try clear c75
            try clear hcz13_0
            try clear hcz13_1
            try clear hcz15_0
            try clear hcz15_1
            try clear hcz20_0
            try clear hcz20_1
            try clear hcz25_0
            try clear hcz25_1
            try clear hcz46_0
            try clear hcz46_1
            try clear hcz5_0
            try clear hcz5_1
            try clear hcz69_0
            try clear hcz69_1
            try clear hfz13_0
            try clear hfz13_1
            try clear hfz15_0
            try clear hfz15_1
            try clear hfz20_0
            try clear hfz20_1
            try clear hfz25_0
            try clear hfz25_1
            try clear hfz46_0
            try clear hfz46_1
            try clear hfz5_0
            try clear hfz5_1
            try clear hfz69_0
            try clear hfz69_1
            try clear p2
            obtain ⟨kq, x87_64, rfl, HA, HJ64, HO_7, BK101, HB⟩ := hcut
            have hl7_64 := (Kd.R_reads' HO_7.out).1
            rw [hl7_64] at HO_7
            (try simp only [hl7_64])
            (try simp only [hl7_64] at BK101)
            cases kq with
            | zero => exact absurd HA.out (by simp [laws_FnExactShareOrder.j2])
            | succ kj64 =>
             have H := HA.out
             clear HA
             simp only [laws_FnExactShareOrder.j2] at H
             by_cases c80 : x87_64 = true
             ·subst c80
              have H1 : (some false) = some r := by rw [if_pos rfl] at H; exact H
              clear H
              have H := H1
              clear H1
              obtain rfl := Option.some.inj H
              go_wp2
              go_ret
              exact ⟨by first | rfl | (simp [errW_none, errW_some] <;> rfl) | (simp [*, errW_none, errW_some] <;> rfl), pY37⟩
             ·replace c80 := Bool.eq_false_iff.mpr c80
              subst c80
              have H1 : ((laws_heldStringS.f kj64 t135 1).bind fun t148 => (if t148 < 0 then (some false) else (if t148 = t134 then (some true) else (some false)))) = some r := by rw [if_neg (show ¬ (false = true) by decide)] at H; exact H
              clear H
              have H := H1
              clear H1
              replace H := Option.bind_eq_some_iff.mp H
              obtain ⟨t148, A810, H⟩ := H
              replace H : (if t148 < 0 then (some false) else (if t148 = t134 then (some true) else (some false))) = some r := H
              have A81 := Aside0.mk A810
              clear A810
              by_cases c82 : t148 < 0
              ·rw [if_pos c82] at H
               have c82b0 : decide (t148 < 0) = true := decide_eq_true c82
               clear c82
               obtain rfl := Option.some.inj H
               go_wp2_with (first | ((with_reducible refine gate_callee (f := 41) rfl ?_); refine goesL_ (some 90) rfl rfl Try.func41 (by kernel_rfl) rfl #[.slice Ao66 t135.length co66, .int .i64 1] rfl (pY38) ?_; (with_reducible refine (laws_heldStringS.calls kj64 _ _ t135 1 t148 _ ?side1 ?side2 A81.out).mono ?_); (case side1 => exact pC (Kd.R_reads' HO_7.out).2.2); (case side2 => exact (Kd.R_reads' HO_7.out).2.1); rintro e w83 ⟨rfl, hb⟩; refine ⟨_, rfl, ?_⟩; have n0_ := Aside0.mk (Kd.R_below (pY56) hb); have n1_ := Aside0.mk (blk_below (g := gb101) (o := .cells #[.slice A0_0 l0_0.length c0_0, .slice A0_1 l0_1.length c0_1] 26 (0, 0)) (pY40) hb); have n2_ := Aside0.mk (below_step (pY37) hb); clear HO_7; clear BK101; clear HB; have HO_7 := n0_; have BK101 := n1_; have HB := n2_; clear n0_ n1_ n2_; (try clear hb); (try clear hb2); (try clear hk); (try clear hi)))
               go_ret
               exact ⟨by first | rfl | (simp [errW_none, errW_some] <;> rfl) | (simp [*, errW_none, errW_some] <;> rfl), pY37⟩
              ·rw [if_neg c82] at H
               have c82b0 : decide (t148 < 0) = false := decide_eq_false c82
               clear c82
               by_cases c84 : t148 = t134
               ·rw [if_pos c84] at H
                have c84b0 : (t148 == t134) = true := beq_iff_eq.mpr c84
                have c84b1 : (t148 != t134) = false := bne_eq_false_iff_eq.mpr c84
                clear c84
                obtain rfl := Option.some.inj H
                go_wp2_with (first | ((with_reducible refine gate_callee (f := 41) rfl ?_); refine goesL_ (some 90) rfl rfl Try.func41 (by kernel_rfl) rfl #[.slice Ao66 t135.length co66, .int .i64 1] rfl (pY38) ?_; (with_reducible refine (laws_heldStringS.calls kj64 _ _ t135 1 t148 _ ?side1 ?side2 A81.out).mono ?_); (case side1 => exact pC (Kd.R_reads' HO_7.out).2.2); (case side2 => exact (Kd.R_reads' HO_7.out).2.1); rintro e w85 ⟨rfl, hb⟩; refine ⟨_, rfl, ?_⟩; have n0_ := Aside0.mk (Kd.R_below (pY56) hb); have n1_ := Aside0.mk (blk_below (g := gb101) (o := .cells #[.slice A0_0 l0_0.length c0_0, .slice A0_1 l0_1.length c0_1] 26 (0, 0)) (pY40) hb); have n2_ := Aside0.mk (below_step (pY37) hb); clear HO_7; clear BK101; clear HB; have HO_7 := n0_; have BK101 := n1_; have HB := n2_; clear n0_ n1_ n2_; (try clear hb); (try clear hb2); (try clear hk); (try clear hi)))
                go_ret
                exact ⟨by first | rfl | (simp [errW_none, errW_some] <;> rfl) | (simp [*, errW_none, errW_some] <;> rfl), pY37⟩
               ·rw [if_neg c84] at H
                have c84b0 : (t148 == t134) = false := beq_eq_false_iff_ne.mpr c84
                have c84b1 : (t148 != t134) = true := bne_iff_ne.mpr c84
                obtain rfl := Option.some.inj H
                go_wp2_with (first | ((with_reducible refine gate_callee (f := 41) rfl ?_); refine goesL_ (some 90) rfl rfl Try.func41 (by kernel_rfl) rfl #[.slice Ao66 t135.length co66, .int .i64 1] rfl (pY38) ?_; (with_reducible refine (laws_heldStringS.calls kj64 _ _ t135 1 t148 _ ?side1 ?side2 A81.out).mono ?_); (case side1 => exact pC (Kd.R_reads' HO_7.out).2.2); (case side2 => exact (Kd.R_reads' HO_7.out).2.1); rintro e w86 ⟨rfl, hb⟩; refine ⟨_, rfl, ?_⟩; have n0_ := Aside0.mk (Kd.R_below (pY56) hb); have n1_ := Aside0.mk (blk_below (g := gb101) (o := .cells #[.slice A0_0 l0_0.length c0_0, .slice A0_1 l0_1.length c0_1] 26 (0, 0)) (pY40) hb); have n2_ := Aside0.mk (below_step (pY37) hb); clear HO_7; clear BK101; clear HB; have HO_7 := n0_; have BK101 := n1_; have HB := n2_; clear n0_ n1_ n2_; (try clear hb); (try clear hb2); (try clear hk); (try clear hi)))
                go_ret
                exact ⟨by first | rfl | (simp [errW_none, errW_some] <;> rfl) | (simp [*, errW_none, errW_some] <;> rfl), pY37⟩
          ·rw [if_neg c62] at H
           have c62b0 : (t136 == t134) = false := beq_eq_false_iff_ne.mpr c62
           have c62b1 : (t136 != t134) = true := bne_iff_ne.mpr c62
           obtain rfl := Option.some.inj H
           obtain ⟨Ao87, co87, eo87⟩ := Kd.R_slice HO_7.out
           subst eo87
           go_wp2_with (first | ((with_reducible refine gate_callee (f := 40) rfl ?_); refine goesL_ (some 64) rfl rfl Try.func40 (by kernel_rfl) rfl #[.slice Ao87 t120.length co87, .int .i64 1] rfl (pY38) ?_; (with_reducible refine (laws_markStringS.calls kj38 (fun k_ => some k_ = (.slice Ao87 t120.length co87 : Value).ownBlock) (.slice Ao87 t120.length co87) t120 1 t134 t135 w _ ?side1 ?side2 A56.out).mono ?_); (case side1 => repeat (first | (with_reducible first | exact HB.out | apply below_alloc | apply pw_below_drewN | apply below_drew1 | refine below_set ?_ GE101.out) | exact HB.out)); (case side2 => exact Kd.R_tight rfl HO_7.out); rintro e w88 ⟨rfl, hy0, hb, hkp⟩; refine ⟨_, rfl, ?_⟩; have n0_ := Aside0.mk (Kd.R_mono (ok' := fun k_ => some k_ ≠ (.slice Ao87 t120.length co87 : Value).ownBlock) (Kd.R_keptB (HO_4.out) hkp (fun k_ hk_ hs_ => (hk_) hs_)) (fun k_ hk_ => hk_.1)); have n1_ := Aside0.mk (Kd.R_reok rfl hy0 (fun k_ e_ => HO_7.out.1 k_ e_)); have n2_ := Aside0.mk (blk_kept (pY40) hkp (fun hs_ => (fun e_ => (Kd.R_ne HO_7.out BK101.out (by decide)) e_) hs_)); have n3_ := Aside0.mk (hb); clear HO_4; clear HO_7; clear BK101; clear HB; have HO_4 := n0_; have HO_7 := n1_; have BK101 := n2_; have HB := n3_; clear n0_ n1_ n2_ n3_; (try clear hb); (try clear hkp); (try clear hy0)) | ((with_reducible refine gate_callee (f := 41) rfl ?_); refine goesL_ (some 67) rfl rfl Try.func41 (by kernel_rfl) rfl #[.slice Ao87 t135.length co87, .int .i64 1] rfl (by (try simp only [List.map_toArray, List.map_cons, List.map_nil]); first | done | (rw [show t135.length = t120.length from (Kd.R_reads' HO_7.out).1.symm] <;> rfl) | rfl | (simp only [List.length_drop, List.length_take]; rfl)) ?_; (with_reducible refine (laws_heldStringS.calls kj38 _ _ t135 1 t136 _ ?side1 ?side2 A57.out).mono ?_); (case side1 => exact pC (Kd.R_reads' HO_7.out).2.2); (case side2 => rw [show t135.length = t120.length from (Kd.R_reads' HO_7.out).1.symm]; exact (Kd.R_reads' HO_7.out).2.1); rintro e w89 ⟨rfl, hb⟩; refine ⟨_, rfl, ?_⟩; have n0_ := Aside0.mk (Kd.R_below (pY53) hb); have n1_ := Aside0.mk (Kd.R_below (pY56) hb); have n2_ := Aside0.mk (blk_below (g := gb101) (o := .cells #[.slice A0_0 l0_0.length c0_0, .slice A0_1 l0_1.length c0_1] 26 (0, 0)) (pY40) hb); have n3_ := Aside0.mk (below_step (pY37) hb); clear HO_4; clear HO_7; clear BK101; clear HB; have HO_4 := n0_; have HO_7 := n1_; have BK101 := n2_; have HB := n3_; clear n0_ n1_ n2_ n3_; (try clear hb); (try clear hb2); (try clear hk); (try clear hi)))
           go_ret
           exact ⟨by first | rfl | (simp [errW_none, errW_some] <;> rfl) | (simp [*, errW_none, errW_some] <;> rfl), pY37⟩
     ·replace c37 := Bool.eq_false_iff.mpr c37
      subst c37
      have H1 : (some false) = some r := by rw [if_neg (show ¬ (false = true) by decide)] at H; exact H
      clear H
      have H := H1
      clear H1
      obtain rfl := Option.some.inj H
      try go_wp2
      have n0_ := Aside0.mk (Kd.R_drew HO_4.out)
      have n1_ := Aside0.mk (Kd.R_drew HO_7.out)
      have n2_ := Aside0.mk (Kd.R_drew HO_120000.out)
      have n3_ := Aside0.mk (Kd.S_drew HO_120001.out)
      have n4_ := Aside0.mk (blk_drew BK101.out)
      have n5_ := Aside0.mk (blk_drew BK119.out)
      have n6_ := Aside0.mk (below_drew1 HB.out)
      clear HO_4
      clear HO_7
      clear HO_120000
      clear HO_120001
      clear BK101
      clear BK119
      clear HB
      have HO_4 := n0_
      have HO_7 := n1_
      have HO_120000 := n2_
      have HO_120001 := n3_
      have BK101 := n4_
      have BK119 := n5_
      have HB := n6_
      clear n0_ n1_ n2_ n3_ n4_ n5_ n6_
      refine start_ (n := 5) (S := fun w' => w'.cell? ⟨gb119, 0, none⟩ = some (.slice Ao23 t113.length co23) ∧ w'.cell? ⟨gb119, 1, none⟩ = some (.slice Ao26 t116.length co26) ∧ w'.cell? ⟨gb101, 0, none⟩ = some (.slice A0_0 l0_0.length c0_0) ∧ w'.cell? ⟨gb101, 1, none⟩ = some (.slice A0_1 l0_1.length c0_1)) (ds := []) #[false, false, false, false, false] (by kernel_rfl) rfl rfl ⟨(blk_cell BK119.out 0).trans rfl, (blk_cell BK119.out 1).trans rfl, (blk_cell BK101.out 0).trans rfl, (blk_cell BK101.out 1).trans rfl⟩ (fun hHeld => ?_)
      generalize wc.drew = w90 at HO_4 HO_7 HO_120000 HO_120001 BK101 BK119 HB hHeld ⊢
      refine tK4_ (i := 0) (N := some 41) #[true, false, false, false, false] ?_
      refine tK4_ (i := 1) (N := some 42) #[true, true, false, false, false] ?_
      refine one_ (i := 2) (N := some 43) #[true, true, true, false, false] rfl rfl (by kernel_rfl) (by decide) (fun K hK => ?_)
      refine goes_ Try.func23 (by kernel_rfl) rfl #[.agg #[.slice A0_0 l0_0.length c0_0, .slice A0_1 l0_1.length c0_1]] (by rfl) rfl rfl (pY38) ?_
      with_reducible refine (laws_toShareBook.calls kj10 _ _ l0_0 _ _ l0_1 t125 t128 _ ?side1 ?side2 ?side3 ?side4 A35.out).mono ?_
      (case side1 => exact pC (Kd.C_below HR0_0.out HB.out))
      (case side2 => exact HC0_0.out)
      (case side3 => exact pC (Kd.C_below HR0_1.out HB.out))
      (case side4 => exact HC0_1.out)
      rintro e w91 ⟨v126, v129, rfl, ho0, ho1, hb⟩
      refine ⟨_, rfl, ?_⟩
      have n0_ := Aside0.mk (Kd.R_elder' (pY53) (Kd.R_base ho0) hb)
      have n1_ := Aside0.mk (Kd.R_elder' (pY56) (Kd.R_base ho0) hb)
      have n2_ := Aside0.mk (Kd.R_elder' (pY43) (Kd.R_base ho0) hb)
      have n3_ := Aside0.mk (Kd.S_mono (Kd.S_told (Kd.S_told (Kd.S_old (by (with_reducible repeat (first | apply Kd.S_alloc | apply Kd.S_drewN | apply Kd.S_drew)); exact HO_120001.out) hb) (Kd.R_base ho0)) (Kd.S_base ho1)) (fun _ h_ => h_.1))
      have n4_ := Aside0.mk (Kd.R_lower (Kd.R_new' (Kd.R_new' (Kd.R_new' ho0 (Kd.R_lt (pY53))) (Kd.R_lt (pY56))) (Kd.R_lt (pY43))) (below_size (pY35)))
      have n5_ := Aside0.mk (Kd.S_lower (Kd.S_new' (Kd.S_new' (Kd.S_new' (Kd.S_new' ho1 (Kd.R_lt (pY53))) (Kd.R_lt (pY56))) (Kd.R_lt (pY43))) (Kd.S_lt (by (with_reducible repeat (first | apply Kd.S_alloc | apply Kd.S_drewN | apply Kd.S_drew)); exact HO_120001.out))) (below_size (pY35)))
      have n6_ := Aside0.mk (blk_below (g := gb101) (o := .cells #[.slice A0_0 l0_0.length c0_0, .slice A0_1 l0_1.length c0_1] 26 (0, 0)) (pY40) hb)
      have n7_ := Aside0.mk (blk_below (g := gb119) (o := .cells #[.slice Ao23 t113.length co23, .slice Ao26 t116.length co26] 31 (0, 0)) (by (with_reducible repeat (first | refine blk_drewN ?_ _ | refine blk_drew ?_ | refine blk_alloc ?_ _)); exact BK119.out) hb)
      have n8_ := Aside0.mk (below_step (pY35) hb)
      clear HO_4
      clear HO_7
      clear HO_120000
      clear HO_120001
      clear BK101
      clear BK119
      clear HB
      have HO_4 := n0_
      have HO_7 := n1_
      have HO_120000 := n2_
      have HO_120001 := n3_
      have HO127 := n4_
      have HO130 := n5_
      have BK101 := n6_
      have BK119 := n7_
      have HB := n8_
      clear n0_ n1_ n2_ n3_ n4_ n5_ n6_ n7_ n8_
      (try clear hb)
      (try clear hb2)
      (try clear hk)
      (try clear hi)
      (try clear ho0)
      (try clear ho1)
      obtain ⟨Ao92, co92, eo92⟩ := Kd.R_slice HO127.out
      (first | subst eo92 | (injection eo92 with f1_ f2_ f3_; have f4_ := f1_.symm; have f5_ := f3_.symm; clear f1_ f2_ f3_; subst f4_; subst f5_))
      obtain ⟨Ao93, co93, eo93⟩ := Kd.S_slice HO130.out
      (first | subst eo93 | (injection eo93 with f1_ f2_ f3_; have f4_ := f1_.symm; have f5_ := f3_.symm; clear f1_ f2_ f3_; subst f4_; subst f5_))
      refine hK.out _ _ ⟨(blk_cell BK119.out 0).trans rfl, (blk_cell BK119.out 1).trans rfl, (blk_cell BK101.out 0).trans rfl, (blk_cell BK101.out 1).trans rfl⟩ (fun hHeld => ?_)
      clear hK K
      refine norm_ (a' := ?_) ?_ ?_
      rotate_left
      ·show Act.put _ (some 43) _ = _
       simp only [pW]
       rfl
      refine one_ (i := 3) (N := some 44) #[true, true, true, true, false] rfl rfl (by kernel_rfl) (by decide) (fun K hK => ?_)
      refine goes_ Try.func25 (by kernel_rfl) rfl #[.agg #[.slice Ao23 t113.length co23, .slice Ao26 t116.length co26], .agg #[.slice Ao92 t125.length co92, .slice Ao93 t128.length co93]] (by rfl) rfl rfl (pY38) ?_
      with_reducible refine (laws_eqShareBook.calls kj10 _ _ t113 _ _ t116 _ _ t125 _ _ t128 false _ ?side1 ?side2 ?side3 ?side4 ?side5 ?side6 ?side7 ?side8 A36.out).mono ?_
      (case side1 => exact pC (Kd.R_reads' HO_120000.out).2.2)
      (case side2 => exact (Kd.R_reads' HO_120000.out).2.1)
      (case side3 => exact pC (Kd.S_reads' HO_120001.out).2.2)
      (case side4 => exact (Kd.S_reads' HO_120001.out).2.1)
      (case side5 => exact pC (Kd.R_reads' HO127.out).2.2)
      (case side6 => exact (Kd.R_reads' HO127.out).2.1)
      (case side7 => exact pC (Kd.S_reads' HO130.out).2.2)
      (case side8 => exact (Kd.S_reads' HO130.out).2.1)
      rintro e w94 ⟨rfl, hb⟩
      refine ⟨_, rfl, ?_⟩
      have n0_ := Aside0.mk (Kd.R_below (pY53) hb)
      have n1_ := Aside0.mk (Kd.R_below (pY56) hb)
      have n2_ := Aside0.mk (Kd.R_below (pY43) hb)
      have n3_ := Aside0.mk (Kd.S_below (by (with_reducible repeat (first | apply Kd.S_alloc | apply Kd.S_drewN | apply Kd.S_drew)); exact HO_120001.out) hb)
      have n4_ := Aside0.mk (Kd.R_below (by (with_reducible repeat (first | apply Kd.R_alloc | apply Kd.R_drewN | apply Kd.R_drew)); exact HO127.out) hb)
      have n5_ := Aside0.mk (Kd.S_below (by (with_reducible repeat (first | apply Kd.S_alloc | apply Kd.S_drewN | apply Kd.S_drew)); exact HO130.out) hb)
      have n6_ := Aside0.mk (blk_below (g := gb101) (o := .cells #[.slice A0_0 l0_0.length c0_0, .slice A0_1 l0_1.length c0_1] 26 (0, 0)) (pY40) hb)
      have n7_ := Aside0.mk (blk_below (g := gb119) (o := .cells #[.slice Ao23 t113.length co23, .slice Ao26 t116.length co26] 31 (0, 0)) (by (with_reducible repeat (first | refine blk_drewN ?_ _ | refine blk_drew ?_ | refine blk_alloc ?_ _)); exact BK119.out) hb)
      have n8_ := Aside0.mk (below_step (pY35) hb)
      clear HO_4
      clear HO_7
      clear HO_120000
      clear HO_120001
      clear HO127
      clear HO130
      clear BK101
      clear BK119
      clear HB
      have HO_4 := n0_
      have HO_7 := n1_
      have HO_120000 := n2_
      have HO_120001 := n3_
      have HO127 := n4_
      have HO130 := n5_
      have BK101 := n6_
      have BK119 := n7_
      have HB := n8_
      clear n0_ n1_ n2_ n3_ n4_ n5_ n6_ n7_ n8_
      (try clear hb)
      (try clear hb2)
      (try clear hk)
      (try clear hi)
      refine hK.out _ _ ⟨(blk_cell BK119.out 0).trans rfl, (blk_cell BK119.out 1).trans rfl, (blk_cell BK101.out 0).trans rfl, (blk_cell BK101.out 1).trans rfl⟩ (fun hHeld => ?_)
      clear hK K
      refine norm_ (a' := ?_) ?_ ?_
      rotate_left
      ·show Act.put _ (some 44) _ = _
       simp only [pW]
       rfl
      refine pU0 (i := 4) (N := some 45) #[true, true, true, true, true] ?_
      refine done_ (by kernel_rfl) ?_
      try go_wp2
      go_ret
      exact ⟨by first | rfl | (simp [errW_none, errW_some] <;> rfl) | (simp [*, errW_none, errW_some] <;> rfl), pY35⟩
end Go.Proofs.Ytaofjgnhapnndaa.Q
namespace Go.Proofs.Ytaofjgnhapnndaa.Q
open Go.RowKit Go.Proofs.YtaofjgnhapnndaaW.PrintWords Go.Proofs.YtaofjgnhapnndaaW.PrintLast Go.Proofs.YtaofjgnhapnndaaW.PrintMore
set_option linter.unusedVariables false
set_option linter.unusedSimpArgs false
theorem FnExactShareOrder_pure (ts : List ByteArray) (bs : List LB) (hi : Inok ts bs) : ∃ k, laws_FnExactShareOrder.f k ts bs = some true := by
  refine Ev.rounds (g := fun k => laws_FnExactShareOrder.f k ts bs) ?_
  unfold laws_FnExactShareOrder.f
  refine counted hi fun a ha h0 h => ?_
  have hl : (orderB ts (bs.map toB)).1.length ≤ 1048576 := Nat.le_trans (orderB_len _ _) (by rw [List.length_map]; exact h.lb)
  have hq : Ev (fun k => laws_eqStringS.f k (orderB ts (bs.map toB)).1 (orderB ts (bs.map toB)).1) true := eqStringS_ev _ (by omega)
  have hg := impl_ShareOrder_ev ts (bs.map toB) h.ts' h.bs' h.bok'
  refine Ev.bind h.to_ev (Ev.bind (spec_ShareOrder_ev _ _ h.ts' h.bs' h.bok') (Ev.bind h.to_ev (Ev.bind hg (Ev.bind hq (Ev.pos rfl ?_)))))
  refine Ev.step (fun k => laws_FnExactShareOrder.j0.eq_2 _ _ _ _ _ _ _ _ _ k) (Ev.neg (by simp) ?_)
  refine unturned h (Ev.bind (markBook_ev ts bs 1 (by omega) (by omega) (wBook_of ha h0)) (Ev.neg (by omega) (Ev.bind hq (Ev.pos rfl ?_))))
  refine Ev.step (fun k => laws_FnExactShareOrder.j1.eq_2 _ _ _ _ _ _ k) (Ev.neg (by simp) ?_)
  refine marked_held hl (Ev.bind h.to_ev (Ev.bind hg (Ev.bind hq (Ev.pos rfl ?_))))
  exact Ev.step (fun k => laws_FnExactShareOrder.j2.eq_2 _ _ _ k) (Ev.neg (by simp) (held_still hl))
end Go.Proofs.Ytaofjgnhapnndaa.Q
