/- Texts that the row needs: words on memory and rows, the contracts of the functions it reaches, and the plain lemmas on what they compute. -/
import Derived.Below
import Derived.Deep.Draws
import Derived.Deep.AppendLies
import Derived.Maps.AppendAt
import Derived.OwnWalk
import Derived.Laws.BytesArg
import Derived.Laws.MakeOwn
import Derived.Laws.OwnMore
import Derived.Deep.OwnRows
import Derived.Tactics
import Derived.Lib.ConvBytes
import Derived.Laws.Slices
import Derived.WalkKit
import Derived.KernelRfl
import Derived.RowKit3
import Derived.Deep.LoopGhost
import Derived.Deep.QuietTactic
import Derived.BigQuiet
import Derived.WideLaws
import Derived.Deep.DeepCutAuto
import Derived.Deep.CutBlock
import Derived.Deep.RegionHeld3
import Derived.Laws.Rows
import Derived.Lib.AppendStr
import Derived.ArgAppend
import Derived.Laws.IdiomCopy
import Derived.RowKit
import Derived.OrdersHeld
import Derived.Laws.BitsLemmas
import Derived.Laws.StructEq
import Derived.Test.YtaofjgnhapnndaaProg
import Derived.WalkLawsBesides
import Derived.Shelf.Abstract
import Derived.Test.YtaofjgnhapnndaaXMaa
import Derived.Test.YtaofjgnhapnndaaXMab
import Derived.Test.YtaofjgnhapnndaaXMac
import Derived.Test.YtaofjgnhapnndaaXMad
import Derived.Test.YtaofjgnhapnndaaXMae
import Derived.Test.YtaofjgnhapnndaaXMaf
import Derived.Test.YtaofjgnhapnndaaXMag
import Derived.Test.YtaofjgnhapnndaaXMah
import Derived.Test.YtaofjgnhapnndaaXMai
import Derived.Test.YtaofjgnhapnndaaXMaj
open Go.Proofs.YtaofjgnhapnndaaFM
namespace Go.Proofs.Ytaofjgnhapnndaa.Q
open Go.RowKit Go.Proofs.YtaofjgnhapnndaaW.PrintWords Go.Proofs.YtaofjgnhapnndaaW.PrintLast Go.Proofs.YtaofjgnhapnndaaW.PrintMore
set_option linter.unusedVariables false
set_option linter.unusedSimpArgs false
def impl_ShareBook_can.l0 : Nat → Int → List ByteArray → List (S56) → Int → Int → List ByteArray → List (S56) → Option (Bool)
 | 0, _, _, _, _, _, _, _ => none
 | k + 1, x1, x2, x10, x11, x12, x102000, x102001 => if x12 < x11 then (if 0 ≤ x12 then (if x12 < (x10.length : Int) then (if x12 = x1 then (impl_ShareBook_can.l0 k x1 x2 x10 x11 (wrap64 (x12 + 1)) x102000 x102001) else ((slices_Contains_string_string.f k x2 ((rd_T56 x10 x12).f0)).bind fun t104 => (if t104 = true then (impl_ShareBook_can.l0 k x1 x2 x10 x11 (wrap64 (x12 + 1)) x102000 x102001) else (if 0 ≤ x1 then (if x1 < (x102001.length : Int) then ((impl_common.f ((rd_T56 x10 x12).f1) ((rd_T56 x102001 x1).f2)).bind fun t106 => (if t106 = true then (some false) else (impl_ShareBook_can.l0 k x1 x2 x10 x11 (wrap64 (x12 + 1)) x102000 x102001))) else (none)) else (none))))) else (none)) else (none)) else (some true)
def impl_ShareBook_can.f (k : Nat) (l0_0 : List ByteArray) (l0_1 : List (S56)) (a1 : Int) (l2 : List ByteArray) : Option (Bool) := impl_ShareBook_can.l0 k a1 l2 l0_1 (l0_1.length : Int) 0 l0_0 l0_1
def impl_ShareBook_can.T4 : Bool × List (List Nat × List Nat) := (true, [([], []), ([], []), ([0, 1], [0, 1]), ([2], [2]), ([3], [3]), ([3], [3]), ([5, 3], [3, 5]), ([4, 6, 3, 3], [3, 4, 6]), ([7, 3], [3, 7]), ([3, 8], [3, 8]), ([9, 7], [9]), ([10], [10]), ([11, 10], [10, 11]), ([10], [10]), ([13, 10], [10, 13]), ([10], [10]), ([14, 15, 10], [10, 14, 15]), ([16, 10], [10, 16]), ([17, 10], [10, 17]), ([12, 18, 10, 10], [10, 12, 18]), ([10, 19], [10, 19])])
def impl_ShareBook_can.B4 : List Nat := [0, 0, 3, 7, 15, 15, 47, 127, 255, 511, 1023, 2047, 4095, 2047, 10239, 2047, 59391, 124927, 255999, 524287, 1048575]
theorem impl_ShareBook_can.tab4 : rtab .any (opsOf Try.f85 4) = impl_ShareBook_can.T4 := by kernel_rfl
theorem impl_ShareBook_can.bits4 : waitsOk impl_ShareBook_can.T4.2 impl_ShareBook_can.B4 = true := by kernel_rfl
set_option maxHeartbeats 8000000 in
set_option maxRecDepth 100000 in
theorem impl_ShareBook_can.calls (k : Nat) (A0_0 : Option Addr) (c0_0 : Nat) (l0_0 : List ByteArray) (A0_1 : Option Addr) (c0_1 : Nat) (l0_1 : List (S56)) (a1 : Int) (A2 : Option Addr) (c2 : Nat) (l2 : List ByteArray) (r : Bool) (w : World) (hr0_0 : Kd.C Kd.string w A0_0 l0_0.length l0_0) (hc0_0 : l0_0.length ≤ c0_0) (hr0_1 : Kd.C k56 w A0_1 l0_1.length l0_1) (hc0_1 : l0_1.length ≤ c0_1) (hr2 : Kd.C Kd.string w A2 l2.length l2) (hc2 : l2.length ≤ c2) (h : impl_ShareBook_can.f k l0_0 l0_1 a1 l2 = some r) :
  Calls Try.prog 85 #[.agg #[.slice A0_0 l0_0.length c0_0, .slice A0_1 l0_1.length c0_1], .int .i64 a1, .slice A2 l2.length c2] w fun e w' => e = .returned (.bool r) ∧ Below w.heap.size w w' := by
 have hu31 := Try.underlying31
 have hu56 := Try.underlying56
 have HR0_0 := Aside0.mk hr0_0
 have HC0_0 := Aside0.mk hc0_0
 clear hr0_0 hc0_0
 have HR0_1 := Aside0.mk hr0_1
 have HC0_1 := Aside0.mk hc0_1
 clear hr0_1 hc0_1
 have HR2 := Aside0.mk hr2
 have HC2 := Aside0.mk hc2
 clear hr2 hc2
 have HB := Aside0.mk (Below.refl w.heap.size w)
 have H : (impl_ShareBook_can.l0 k a1 l2 l0_1 (l0_1.length : Int) 0 l0_0 l0_1) = some r := h
 clear h
 have H' := Aside0.mk H
 clear H
 go_enter Try.func85, Try.ntmps85
 go_wp2_with (first | ((with_reducible refine gate_dst (N := 3) rfl ?_); refine box_event ?hg (N := 3) ?hd (cs := #[.slice A0_0 l0_0.length c0_0, .slice A0_1 l0_1.length c0_1]) (t := 31) ?hr ?_; (case hd => rfl); (case hg => rfl); (case hr => first | (go_simp; done) | (go_simp; rfl)); intro gb101 hg w4 hbox hb; have n0_ := Aside0.mk (below_step (pY39) hb); have n1_ := Aside0.mk (hbox); have n2_ := Aside0.mk ((pY36 : w.heap.size ≤ gb101)); have n3_ := Aside0.mk ((pY36 : w.heap.size ≤ gb101)); clear HB; have HB := n0_; have BK101 := n1_; have GW101 := n2_; have GE101 := n3_; clear n0_ n1_ n2_ n3_; clear hb hbox hg; have hcz5_0 : w4.cell? ⟨gb101, 0, none⟩ = some (.slice A0_0 l0_0.length c0_0) := (blk_cell BK101.out 0).trans rfl; have hcz5_1 : w4.cell? ⟨gb101, 1, none⟩ = some (.slice A0_1 l0_1.length c0_1) := (blk_cell BK101.out 1).trans rfl; have hfz5_0 := blk_frozen BK101.out 0; have hfz5_1 := blk_frozen BK101.out 1))
 go_loopg [12] k (fun kq v12 w' => ∃ (x12_1 : Int), v12 = .int .i64 x12_1 ∧ Aside0 (impl_ShareBook_can.l0 kq a1 l2 l0_1 (l0_1.length : Int) x12_1 l0_0 l0_1 = some r) ∧ Aside0 (kq ≤ k) ∧ Aside0 (w'.heap[gb101]? = some (.cells #[(.slice A0_0 l0_0.length c0_0), (.slice A0_1 l0_1.length c0_1)] 31 (0, 0))) ∧ Aside0 (Below w.heap.size w w'))
 case atStart => exact ⟨(0), (pY59), H', ⟨Nat.le_refl _⟩, ⟨by (with_reducible repeat (first | refine blk_drewN ?_ _ | refine blk_drew ?_ | refine blk_alloc ?_ _)); exact BK101.out⟩, ⟨pY37⟩⟩
 case round =>
  clear H'
  try clear c2
  try clear p2
  try clear hcz5_0
  try clear hcz5_1
  try clear hfz5_0
  try clear hfz5_1
  obtain ⟨x12_1, rfl, HA, HK1, BK101, HB⟩ := hrel
  cases gk with
  | zero => exact absurd HA.out (by simp [impl_ShareBook_can.l0])
  | succ k1 =>
   have H := HA.out
   clear HA
   simp only [impl_ShareBook_can.l0] at H
   by_cases c6 : x12_1 < (l0_1.length : Int)
   ·rw [if_pos c6] at H
    have c6b0 : decide (x12_1 < (l0_1.length : Int)) = true := decide_eq_true c6
    clear c6
    by_cases c7 : 0 ≤ x12_1
    ·rw [if_pos c7] at H
     have c7b0 : decide (0 ≤ x12_1) = true := decide_eq_true c7
     clear c7
     by_cases c8 : x12_1 < (l0_1.length : Int)
     ·rw [if_pos c8] at H
      have c8b0 : decide (x12_1 < (l0_1.length : Int)) = true := decide_eq_true c8
      clear c8
      by_cases c9 : x12_1 = a1
      ·rw [if_pos c9] at H
       have c9b0 : (x12_1 == a1) = true := beq_iff_eq.mpr c9
       have c9b1 : (x12_1 != a1) = false := bne_eq_false_iff_eq.mpr c9
       clear c9
       have H' := Aside0.mk H
       clear H
       have p102 : 0 ≤ (x12_1 : Int) := of_decide_eq_true (pY58)
       have q102 : x12_1 < (l0_1.length : Int) := of_decide_eq_true (pY58)
       obtain ⟨ad102, A102_1, c102_1, A102_2, c102_2, e102, hx102_0, hx102_1, hx102_2, hl102_1, hi102_1, hl102_2, hi102_2⟩ := at_T56 HR0_1.out x12_1 p102 q102
       cases e102
       replace hx102_0 := (HB.out.cell (World.block_lt_of_cell? w _ hx102_0)).trans hx102_0
       replace hx102_1 := (HB.out.cell (World.block_lt_of_cell? w _ hx102_1)).trans hx102_1
       replace hx102_2 := (HB.out.cell (World.block_lt_of_cell? w _ hx102_2)).trans hx102_2
       have HR102_1 := Aside0.mk hi102_1
       have HC102_1 := Aside0.mk hl102_1
       clear hi102_1 hl102_1
       have HR102_2 := Aside0.mk hi102_2
       have HC102_2 := Aside0.mk hl102_2
       clear hi102_2 hl102_2
       replace p102 := eq_true p102
       replace q102 := eq_true q102
       try go_wp2_with (first | ((with_reducible refine gate_dst (N := 8) rfl ?_); refine box_event ?hg (N := 8) ?hd (cs := #[.string (⟨#[]⟩ : ByteArray), .slice none 0 0, .slice none 0 0]) (t := 56) ?hr ?_; (case hd => rfl); (case hg => rfl); (case hr => first | (go_simp; done) | (go_simp; rfl)); intro gb103 hg w10 hbox hb; have n0_ := Aside0.mk (blk_below (g := gb101) (o := .cells #[.slice A0_0 l0_0.length c0_0, .slice (some ad102) l0_1.length c0_1] 31 (0, 0)) (pY40) hb); have n1_ := Aside0.mk (below_step (pY37) hb); have n2_ := Aside0.mk (hbox); have n3_ := Aside0.mk ((pY27 : w.heap.size ≤ gb103)); have n4_ := Aside0.mk ((pY27 : w.heap.size ≤ gb103)); have n5_ := Aside0.mk ((pY15 : gb101 ≠ gb103)); have n6_ := Aside0.mk ((pY16 : gb103 ≠ gb101)); clear BK101; clear HB; have BK101 := n0_; have HB := n1_; have BK103 := n2_; have GW103 := n3_; have GE103 := n4_; have NB101_103 := n5_; have NB103_101 := n6_; clear n0_ n1_ n2_ n3_ n4_ n5_ n6_; clear hb hbox hg; have hnb11 := NB103_101.out; have hnc11 := NB101_103.out; have hcz12_0 : w10.cell? ⟨gb103, 0, none⟩ = some (.string (⟨#[]⟩ : ByteArray)) := (blk_cell BK103.out 0).trans rfl; have hcz12_1 : w10.cell? ⟨gb103, 1, none⟩ = some (.slice none 0 0) := (blk_cell BK103.out 1).trans rfl; have hcz12_2 : w10.cell? ⟨gb103, 2, none⟩ = some (.slice none 0 0) := (blk_cell BK103.out 2).trans rfl; have hfz12_0 := blk_frozen BK103.out 0; have hfz12_1 := blk_frozen BK103.out 1; have hfz12_2 := blk_frozen BK103.out 2))
       have n0_ : Aside0 ((((w10.setCell ⟨gb103, 0, none⟩ (.string ((rd_T56 l0_1 x12_1).f0))).setCell ⟨gb103, 1, none⟩ (.slice A102_1 ((rd_T56 l0_1 x12_1).f1).length c102_1)).setCell ⟨gb103, 2, none⟩ (.slice A102_2 ((rd_T56 l0_1 x12_1).f2).length c102_2)).heap[gb101]? = some (.cells #[.slice A0_0 l0_0.length c0_0, .slice (some ad102) l0_1.length c0_1] 31 (0, 0))) := ⟨by (with_reducible repeat (first | refine blk_drewN ?_ _ | refine blk_drew ?_ | refine blk_alloc ?_ _)); refine blk_far ?_ NB101_103.out _; (with_reducible repeat (first | refine blk_drewN ?_ _ | refine blk_drew ?_ | refine blk_alloc ?_ _)); refine blk_far ?_ NB101_103.out _; (with_reducible repeat (first | refine blk_drewN ?_ _ | refine blk_drew ?_ | refine blk_alloc ?_ _)); refine blk_far ?_ NB101_103.out _; (with_reducible repeat (first | refine blk_drewN ?_ _ | refine blk_drew ?_ | refine blk_alloc ?_ _)); exact BK101.out⟩
       have n1_ : Aside0 ((((w10.setCell ⟨gb103, 0, none⟩ (.string ((rd_T56 l0_1 x12_1).f0))).setCell ⟨gb103, 1, none⟩ (.slice A102_1 ((rd_T56 l0_1 x12_1).f1).length c102_1)).setCell ⟨gb103, 2, none⟩ (.slice A102_2 ((rd_T56 l0_1 x12_1).f2).length c102_2)).heap[gb103]? = some (.cells #[.string ((rd_T56 l0_1 x12_1).f0), .slice A102_1 ((rd_T56 l0_1 x12_1).f1).length c102_1, .slice A102_2 ((rd_T56 l0_1 x12_1).f2).length c102_2] 56 (0, 0))) := ⟨by (with_reducible repeat (first | refine blk_drewN ?_ _ | refine blk_drew ?_ | refine blk_alloc ?_ _)); refine blk_put (cs := #[.string ((rd_T56 l0_1 x12_1).f0), .slice A102_1 ((rd_T56 l0_1 x12_1).f1).length c102_1, .slice none 0 0]) ?_ 2 _ rfl; (with_reducible repeat (first | refine blk_drewN ?_ _ | refine blk_drew ?_ | refine blk_alloc ?_ _)); refine blk_put (cs := #[.string ((rd_T56 l0_1 x12_1).f0), .slice none 0 0, .slice none 0 0]) ?_ 1 _ rfl; (with_reducible repeat (first | refine blk_drewN ?_ _ | refine blk_drew ?_ | refine blk_alloc ?_ _)); refine blk_put (cs := #[.string (⟨#[]⟩ : ByteArray), .slice none 0 0, .slice none 0 0]) ?_ 0 _ rfl; (with_reducible repeat (first | refine blk_drewN ?_ _ | refine blk_drew ?_ | refine blk_alloc ?_ _)); exact BK103.out⟩
       have n2_ : Aside0 (Below w.heap.size w (((w10.setCell ⟨gb103, 0, none⟩ (.string ((rd_T56 l0_1 x12_1).f0))).setCell ⟨gb103, 1, none⟩ (.slice A102_1 ((rd_T56 l0_1 x12_1).f1).length c102_1)).setCell ⟨gb103, 2, none⟩ (.slice A102_2 ((rd_T56 l0_1 x12_1).f2).length c102_2))) := ⟨pY31⟩
       (try clear BK101)
       (try clear BK103)
       (try clear HB)
       generalize (((w10.setCell ⟨gb103, 0, none⟩ (.string ((rd_T56 l0_1 x12_1).f0))).setCell ⟨gb103, 1, none⟩ (.slice A102_1 ((rd_T56 l0_1 x12_1).f1).length c102_1)).setCell ⟨gb103, 2, none⟩ (.slice A102_2 ((rd_T56 l0_1 x12_1).f2).length c102_2)) = w13 at n0_ n1_ n2_ ⊢
       have BK101 := n0_
       have BK103 := n1_
       have HB := n2_
       clear n0_ n1_ n2_
       have n0_ := Aside0.mk (blk_drew BK101.out)
       have n1_ := Aside0.mk (blk_drew BK103.out)
       have n2_ := Aside0.mk (below_drew1 HB.out)
       clear BK101
       clear BK103
       clear HB
       have BK101 := n0_
       have BK103 := n1_
       have HB := n2_
       clear n0_ n1_ n2_
       refine start_ (n := 21) (S := fun w' => True) (ds := []) #[ff,ff,ff,ff,ff,ff,ff,ff,ff,ff,ff,ff,ff,ff,ff,ff,ff,ff,ff,ff,ff] (by kernel_rfl) rfl rfl trivial (fun hHeld => ?_); refine with_tabW impl_ShareBook_can.tab4 impl_ShareBook_can.bits4 (fun HT_ HW_ => ?_)
       generalize w13.drew = w14 at BK101 BK103 HB hHeld ⊢
       refine pU (i := 0) (N := some 17) #[tt,ff,ff,ff,ff,ff,ff,ff,ff,ff,ff,ff,ff,ff,ff,ff,ff,ff,ff,ff,ff] ?_
       refine pU (i := 1) (N := some 18) #[tt,tt,ff,ff,ff,ff,ff,ff,ff,ff,ff,ff,ff,ff,ff,ff,ff,ff,ff,ff,ff] ?_
       refine pU (i := 2) (N := some 19) #[tt,tt,tt,ff,ff,ff,ff,ff,ff,ff,ff,ff,ff,ff,ff,ff,ff,ff,ff,ff,ff] ?_
       refine pU (i := 3) (N := some 20) #[tt,tt,tt,tt,ff,ff,ff,ff,ff,ff,ff,ff,ff,ff,ff,ff,ff,ff,ff,ff,ff] ?_
       refine pV (i := 4) (N := some 21) #[tt,tt,tt,tt,tt,ff,ff,ff,ff,ff,ff,ff,ff,ff,ff,ff,ff,ff,ff,ff,ff] ?_
       refine pV (i := 5) (N := some 22) #[tt,tt,tt,tt,tt,tt,ff,ff,ff,ff,ff,ff,ff,ff,ff,ff,ff,ff,ff,ff,ff] ?_
       refine pV (i := 6) (N := some 23) #[tt,tt,tt,tt,tt,tt,tt,ff,ff,ff,ff,ff,ff,ff,ff,ff,ff,ff,ff,ff,ff] ?_
       refine pV (i := 7) (N := some 24) #[tt,tt,tt,tt,tt,tt,tt,tt,ff,ff,ff,ff,ff,ff,ff,ff,ff,ff,ff,ff,ff] ?_
       refine pV (i := 8) (N := some 25) #[tt,tt,tt,tt,tt,tt,tt,tt,tt,ff,ff,ff,ff,ff,ff,ff,ff,ff,ff,ff,ff] ?_
       refine pU (i := 9) (N := some 26) #[tt,tt,tt,tt,tt,tt,tt,tt,tt,tt,ff,ff,ff,ff,ff,ff,ff,ff,ff,ff,ff] ?_
       refine pU (i := 10) (N := some 27) #[tt,tt,tt,tt,tt,tt,tt,tt,tt,tt,tt,ff,ff,ff,ff,ff,ff,ff,ff,ff,ff] ?_
       refine pV (i := 11) (N := some 28) #[tt,tt,tt,tt,tt,tt,tt,tt,tt,tt,tt,tt,ff,ff,ff,ff,ff,ff,ff,ff,ff] ?_
       refine pV (i := 12) (N := some 29) #[tt,tt,tt,tt,tt,tt,tt,tt,tt,tt,tt,tt,tt,ff,ff,ff,ff,ff,ff,ff,ff] ?_
       refine pV (i := 13) (N := some 30) #[tt,tt,tt,tt,tt,tt,tt,tt,tt,tt,tt,tt,tt,tt,ff,ff,ff,ff,ff,ff,ff] ?_
       refine pV (i := 14) (N := some 31) #[tt,tt,tt,tt,tt,tt,tt,tt,tt,tt,tt,tt,tt,tt,tt,ff,ff,ff,ff,ff,ff] ?_
       refine pV (i := 15) (N := some 32) #[tt,tt,tt,tt,tt,tt,tt,tt,tt,tt,tt,tt,tt,tt,tt,tt,ff,ff,ff,ff,ff] ?_
       refine pV (i := 16) (N := some 33) #[tt,tt,tt,tt,tt,tt,tt,tt,tt,tt,tt,tt,tt,tt,tt,tt,tt,ff,ff,ff,ff] ?_
       refine pV (i := 17) (N := some 34) #[tt,tt,tt,tt,tt,tt,tt,tt,tt,tt,tt,tt,tt,tt,tt,tt,tt,tt,ff,ff,ff] ?_
       refine pV (i := 18) (N := some 35) #[tt,tt,tt,tt,tt,tt,tt,tt,tt,tt,tt,tt,tt,tt,tt,tt,tt,tt,tt,ff,ff] ?_
       refine pV (i := 19) (N := some 36) #[tt,tt,tt,tt,tt,tt,tt,tt,tt,tt,tt,tt,tt,tt,tt,tt,tt,tt,tt,tt,ff] ?_
       refine pU (i := 20) (N := some 37) #[tt,tt,tt,tt,tt,tt,tt,tt,tt,tt,tt,tt,tt,tt,tt,tt,tt,tt,tt,tt,tt] ?_
       refine done_ (done_of HT_.out (by kernel_rfl)) ?_
       try go_wp2
       go_roundg k1
       case measure => have := HK1.out; omega
       case rel => exact ⟨(wrap64 (x12_1 + 1)), (pY59), H', ⟨by have := HK1.out; omega⟩, ⟨by (with_reducible repeat (first | refine blk_drewN ?_ _ | refine blk_drew ?_ | refine blk_alloc ?_ _)); exact BK101.out⟩, ⟨pY31⟩⟩
      ·rw [if_neg c9] at H
       have c9b0 : (x12_1 == a1) = false := beq_eq_false_iff_ne.mpr c9
       have c9b1 : (x12_1 != a1) = true := bne_iff_ne.mpr c9
       replace H := Option.bind_eq_some_iff.mp H
       obtain ⟨t104, A150, H⟩ := H
       replace H : (if t104 = true then (impl_ShareBook_can.l0 k1 a1 l2 l0_1 (l0_1.length : Int) (wrap64 (x12_1 + 1)) l0_0 l0_1) else (if 0 ≤ a1 then (if a1 < (l0_1.length : Int) then ((impl_common.f ((rd_T56 l0_1 x12_1).f1) ((rd_T56 l0_1 a1).f2)).bind fun t106 => (if t106 = true then (some false) else (impl_ShareBook_can.l0 k1 a1 l2 l0_1 (l0_1.length : Int) (wrap64 (x12_1 + 1)) l0_0 l0_1))) else (none)) else (none))) = some r := H
       have A15 := Aside0.mk A150
       clear A150
       by_cases c16 : t104 = true
       ·subst c16
        have H1 : (impl_ShareBook_can.l0 k1 a1 l2 l0_1 (l0_1.length : Int) (wrap64 (x12_1 + 1)) l0_0 l0_1) = some r := by rw [if_pos rfl] at H; exact H
        clear H
        have H := H1
        clear H1
        have H' := Aside0.mk H
        clear H
        have p102 : 0 ≤ (x12_1 : Int) := of_decide_eq_true (pY58)
        have q102 : x12_1 < (l0_1.length : Int) := of_decide_eq_true (pY58)
        obtain ⟨ad102, A102_1, c102_1, A102_2, c102_2, e102, hx102_0, hx102_1, hx102_2, hl102_1, hi102_1, hl102_2, hi102_2⟩ := at_T56 HR0_1.out x12_1 p102 q102
        cases e102
        replace hx102_0 := (HB.out.cell (World.block_lt_of_cell? w _ hx102_0)).trans hx102_0
        replace hx102_1 := (HB.out.cell (World.block_lt_of_cell? w _ hx102_1)).trans hx102_1
        replace hx102_2 := (HB.out.cell (World.block_lt_of_cell? w _ hx102_2)).trans hx102_2
        have HR102_1 := Aside0.mk hi102_1
        have HC102_1 := Aside0.mk hl102_1
        clear hi102_1 hl102_1
        have HR102_2 := Aside0.mk hi102_2
        have HC102_2 := Aside0.mk hl102_2
        clear hi102_2 hl102_2
        replace p102 := eq_true p102
        replace q102 := eq_true q102
        try go_wp2_with (first | ((with_reducible refine gate_dst (N := 8) rfl ?_); refine box_event ?hg (N := 8) ?hd (cs := #[.string (⟨#[]⟩ : ByteArray), .slice none 0 0, .slice none 0 0]) (t := 56) ?hr ?_; (case hd => rfl); (case hg => rfl); (case hr => first | (go_simp; done) | (go_simp; rfl)); intro gb103 hg w17 hbox hb; have n0_ := Aside0.mk (blk_below (g := gb101) (o := .cells #[.slice A0_0 l0_0.length c0_0, .slice (some ad102) l0_1.length c0_1] 31 (0, 0)) (pY40) hb); have n1_ := Aside0.mk (below_step (pY37) hb); have n2_ := Aside0.mk (hbox); have n3_ := Aside0.mk ((pY27 : w.heap.size ≤ gb103)); have n4_ := Aside0.mk ((pY27 : w.heap.size ≤ gb103)); have n5_ := Aside0.mk ((pY15 : gb101 ≠ gb103)); have n6_ := Aside0.mk ((pY16 : gb103 ≠ gb101)); clear BK101; clear HB; have BK101 := n0_; have HB := n1_; have BK103 := n2_; have GW103 := n3_; have GE103 := n4_; have NB101_103 := n5_; have NB103_101 := n6_; clear n0_ n1_ n2_ n3_ n4_ n5_ n6_; clear hb hbox hg; have hnb18 := NB103_101.out; have hnc18 := NB101_103.out; have hcz19_0 : w17.cell? ⟨gb103, 0, none⟩ = some (.string (⟨#[]⟩ : ByteArray)) := (blk_cell BK103.out 0).trans rfl; have hcz19_1 : w17.cell? ⟨gb103, 1, none⟩ = some (.slice none 0 0) := (blk_cell BK103.out 1).trans rfl; have hcz19_2 : w17.cell? ⟨gb103, 2, none⟩ = some (.slice none 0 0) := (blk_cell BK103.out 2).trans rfl; have hfz19_0 := blk_frozen BK103.out 0; have hfz19_1 := blk_frozen BK103.out 1; have hfz19_2 := blk_frozen BK103.out 2))
        have n0_ : Aside0 ((((w17.setCell ⟨gb103, 0, none⟩ (.string ((rd_T56 l0_1 x12_1).f0))).setCell ⟨gb103, 1, none⟩ (.slice A102_1 ((rd_T56 l0_1 x12_1).f1).length c102_1)).setCell ⟨gb103, 2, none⟩ (.slice A102_2 ((rd_T56 l0_1 x12_1).f2).length c102_2)).heap[gb101]? = some (.cells #[.slice A0_0 l0_0.length c0_0, .slice (some ad102) l0_1.length c0_1] 31 (0, 0))) := ⟨by (with_reducible repeat (first | refine blk_drewN ?_ _ | refine blk_drew ?_ | refine blk_alloc ?_ _)); refine blk_far ?_ NB101_103.out _; (with_reducible repeat (first | refine blk_drewN ?_ _ | refine blk_drew ?_ | refine blk_alloc ?_ _)); refine blk_far ?_ NB101_103.out _; (with_reducible repeat (first | refine blk_drewN ?_ _ | refine blk_drew ?_ | refine blk_alloc ?_ _)); refine blk_far ?_ NB101_103.out _; (with_reducible repeat (first | refine blk_drewN ?_ _ | refine blk_drew ?_ | refine blk_alloc ?_ _)); exact BK101.out⟩
        have n1_ : Aside0 ((((w17.setCell ⟨gb103, 0, none⟩ (.string ((rd_T56 l0_1 x12_1).f0))).setCell ⟨gb103, 1, none⟩ (.slice A102_1 ((rd_T56 l0_1 x12_1).f1).length c102_1)).setCell ⟨gb103, 2, none⟩ (.slice A102_2 ((rd_T56 l0_1 x12_1).f2).length c102_2)).heap[gb103]? = some (.cells #[.string ((rd_T56 l0_1 x12_1).f0), .slice A102_1 ((rd_T56 l0_1 x12_1).f1).length c102_1, .slice A102_2 ((rd_T56 l0_1 x12_1).f2).length c102_2] 56 (0, 0))) := ⟨by (with_reducible repeat (first | refine blk_drewN ?_ _ | refine blk_drew ?_ | refine blk_alloc ?_ _)); refine blk_put (cs := #[.string ((rd_T56 l0_1 x12_1).f0), .slice A102_1 ((rd_T56 l0_1 x12_1).f1).length c102_1, .slice none 0 0]) ?_ 2 _ rfl; (with_reducible repeat (first | refine blk_drewN ?_ _ | refine blk_drew ?_ | refine blk_alloc ?_ _)); refine blk_put (cs := #[.string ((rd_T56 l0_1 x12_1).f0), .slice none 0 0, .slice none 0 0]) ?_ 1 _ rfl; (with_reducible repeat (first | refine blk_drewN ?_ _ | refine blk_drew ?_ | refine blk_alloc ?_ _)); refine blk_put (cs := #[.string (⟨#[]⟩ : ByteArray), .slice none 0 0, .slice none 0 0]) ?_ 0 _ rfl; (with_reducible repeat (first | refine blk_drewN ?_ _ | refine blk_drew ?_ | refine blk_alloc ?_ _)); exact BK103.out⟩
        have n2_ : Aside0 (Below w.heap.size w (((w17.setCell ⟨gb103, 0, none⟩ (.string ((rd_T56 l0_1 x12_1).f0))).setCell ⟨gb103, 1, none⟩ (.slice A102_1 ((rd_T56 l0_1 x12_1).f1).length c102_1)).setCell ⟨gb103, 2, none⟩ (.slice A102_2 ((rd_T56 l0_1 x12_1).f2).length c102_2))) := ⟨pY31⟩
        (try clear BK101)
        (try clear BK103)
        (try clear HB)
        generalize (((w17.setCell ⟨gb103, 0, none⟩ (.string ((rd_T56 l0_1 x12_1).f0))).setCell ⟨gb103, 1, none⟩ (.slice A102_1 ((rd_T56 l0_1 x12_1).f1).length c102_1)).setCell ⟨gb103, 2, none⟩ (.slice A102_2 ((rd_T56 l0_1 x12_1).f2).length c102_2)) = w20 at n0_ n1_ n2_ ⊢
        have BK101 := n0_
        have BK103 := n1_
        have HB := n2_
        clear n0_ n1_ n2_
        have n0_ := Aside0.mk (blk_drew BK101.out)
        have n1_ := Aside0.mk (blk_drew BK103.out)
        have n2_ := Aside0.mk (below_drew1 HB.out)
        clear BK101
        clear BK103
        clear HB
        have BK101 := n0_
        have BK103 := n1_
        have HB := n2_
        clear n0_ n1_ n2_
        refine start_ (n := 21) (S := fun w' => w'.cell? ⟨gb103, 0, none⟩ = some (.string ((rd_T56 l0_1 x12_1).f0)) ∧ w'.cell? ⟨gb103, 1, none⟩ = some (.slice A102_1 ((rd_T56 l0_1 x12_1).f1).length c102_1) ∧ w'.cell? ⟨gb103, 2, none⟩ = some (.slice A102_2 ((rd_T56 l0_1 x12_1).f2).length c102_2)) (ds := []) #[ff,ff,ff,ff,ff,ff,ff,ff,ff,ff,ff,ff,ff,ff,ff,ff,ff,ff,ff,ff,ff] (by kernel_rfl) rfl rfl ⟨(blk_cell BK103.out 0).trans rfl, (blk_cell BK103.out 1).trans rfl, (blk_cell BK103.out 2).trans rfl⟩ (fun hHeld => ?_); refine with_tabW impl_ShareBook_can.tab4 impl_ShareBook_can.bits4 (fun HT_ HW_ => ?_)
        generalize w20.drew = w21 at BK101 BK103 HB hHeld ⊢
        refine pU (i := 0) (N := some 17) #[tt,ff,ff,ff,ff,ff,ff,ff,ff,ff,ff,ff,ff,ff,ff,ff,ff,ff,ff,ff,ff] ?_
        refine pU (i := 1) (N := some 18) #[tt,tt,ff,ff,ff,ff,ff,ff,ff,ff,ff,ff,ff,ff,ff,ff,ff,ff,ff,ff,ff] ?_
        refine pU (i := 2) (N := some 19) #[tt,tt,tt,ff,ff,ff,ff,ff,ff,ff,ff,ff,ff,ff,ff,ff,ff,ff,ff,ff,ff] ?_
        refine pU (i := 3) (N := some 20) #[tt,tt,tt,tt,ff,ff,ff,ff,ff,ff,ff,ff,ff,ff,ff,ff,ff,ff,ff,ff,ff] ?_
        refine pU (i := 4) (N := some 21) #[tt,tt,tt,tt,tt,ff,ff,ff,ff,ff,ff,ff,ff,ff,ff,ff,ff,ff,ff,ff,ff] ?_
        refine pU (i := 5) (N := some 22) #[tt,tt,tt,tt,tt,tt,ff,ff,ff,ff,ff,ff,ff,ff,ff,ff,ff,ff,ff,ff,ff] ?_
        refine tK3 (i := 6) (N := some 23) #[tt,tt,tt,tt,tt,tt,tt,ff,ff,ff,ff,ff,ff,ff,ff,ff,ff,ff,ff,ff,ff] ?_
        refine one_ (i := 7) (N := some 24) #[tt,tt,tt,tt,tt,tt,tt,tt,ff,ff,ff,ff,ff,ff,ff,ff,ff,ff,ff,ff,ff] rfl rfl (one_of HT_.out (by kernel_rfl)) (by decide) (fun K hK => ?_)
        refine goes_ Try.func81 (by kernel_rfl) rfl #[.slice A2 l2.length c2, .string ((rd_T56 l0_1 x12_1).f0)] (by rfl) rfl rfl (pY38) ?_
        with_reducible refine (slices_Contains_string_string.calls k1 _ _ l2 ((rd_T56 l0_1 x12_1).f0) true _ ?side1 ?side2 A15.out).mono ?_
        (case side1 => exact pC (Kd.C_below HR2.out HB.out))
        (case side2 => exact HC2.out)
        rintro e w' ⟨rfl, ⟨nd, rfl⟩⟩
        refine ⟨_, rfl, ?_⟩
        refine hK.out _ _ ⟨(blk_cell BK103.out 0).trans rfl, (blk_cell BK103.out 1).trans rfl, (blk_cell BK103.out 2).trans rfl⟩ (fun hHeld => ?_)
        clear hK K
        refine norm_ (a' := ?_) ?_ ?_
        rotate_left
        ·show Act.put _ (some 24) _ = _
         simp only [pW]
         rfl
        refine pU (i := 8) (N := some 25) #[tt,tt,tt,tt,tt,tt,tt,tt,tt,ff,ff,ff,ff,ff,ff,ff,ff,ff,ff,ff,ff] ?_
        refine pU (i := 9) (N := some 26) #[tt,tt,tt,tt,tt,tt,tt,tt,tt,tt,ff,ff,ff,ff,ff,ff,ff,ff,ff,ff,ff] ?_
        refine pU (i := 10) (N := some 27) #[tt,tt,tt,tt,tt,tt,tt,tt,tt,tt,tt,ff,ff,ff,ff,ff,ff,ff,ff,ff,ff] ?_
        refine pV (i := 11) (N := some 28) #[tt,tt,tt,tt,tt,tt,tt,tt,tt,tt,tt,tt,ff,ff,ff,ff,ff,ff,ff,ff,ff] ?_
        refine pV (i := 12) (N := some 29) #[tt,tt,tt,tt,tt,tt,tt,tt,tt,tt,tt,tt,tt,ff,ff,ff,ff,ff,ff,ff,ff] ?_
        refine pV (i := 13) (N := some 30) #[tt,tt,tt,tt,tt,tt,tt,tt,tt,tt,tt,tt,tt,tt,ff,ff,ff,ff,ff,ff,ff] ?_
        refine pV (i := 14) (N := some 31) #[tt,tt,tt,tt,tt,tt,tt,tt,tt,tt,tt,tt,tt,tt,tt,ff,ff,ff,ff,ff,ff] ?_
        refine pV (i := 15) (N := some 32) #[tt,tt,tt,tt,tt,tt,tt,tt,tt,tt,tt,tt,tt,tt,tt,tt,ff,ff,ff,ff,ff] ?_
        refine pV (i := 16) (N := some 33) #[tt,tt,tt,tt,tt,tt,tt,tt,tt,tt,tt,tt,tt,tt,tt,tt,tt,ff,ff,ff,ff] ?_
        refine pV (i := 17) (N := some 34) #[tt,tt,tt,tt,tt,tt,tt,tt,tt,tt,tt,tt,tt,tt,tt,tt,tt,tt,ff,ff,ff] ?_
        refine pV (i := 18) (N := some 35) #[tt,tt,tt,tt,tt,tt,tt,tt,tt,tt,tt,tt,tt,tt,tt,tt,tt,tt,tt,ff,ff] ?_
        refine pV (i := 19) (N := some 36) #[tt,tt,tt,tt,tt,tt,tt,tt,tt,tt,tt,tt,tt,tt,tt,tt,tt,tt,tt,tt,ff] ?_
        refine pU (i := 20) (N := some 37) #[tt,tt,tt,tt,tt,tt,tt,tt,tt,tt,tt,tt,tt,tt,tt,tt,tt,tt,tt,tt,tt] ?_
        refine done_ (done_of HT_.out (by kernel_rfl)) ?_
        try go_wp2
        go_roundg k1
        case measure => have := HK1.out; omega
        case rel => exact ⟨(wrap64 (x12_1 + 1)), (pY59), H', ⟨by have := HK1.out; omega⟩, ⟨by (with_reducible repeat (first | refine blk_drewN ?_ _ | refine blk_drew ?_ | refine blk_alloc ?_ _)); exact BK101.out⟩, ⟨pY31⟩⟩
       ·replace c16 := Bool.eq_false_iff.mpr c16
        subst c16
        have H1 : (if 0 ≤ a1 then (if a1 < (l0_1.length : Int) then ((impl_common.f ((rd_T56 l0_1 x12_1).f1) ((rd_T56 l0_1 a1).f2)).bind fun t106 => (if t106 = true then (some false) else (impl_ShareBook_can.l0 k1 a1 l2 l0_1 (l0_1.length : Int) (wrap64 (x12_1 + 1)) l0_0 l0_1))) else (none)) else (none)) = some r := by rw [if_neg (show ¬ (false = true) by decide)] at H; exact H
        clear H
        have H := H1
        clear H1
        by_cases c22 : 0 ≤ a1
        ·rw [if_pos c22] at H
         have c22b0 : decide (0 ≤ a1) = true := decide_eq_true c22
         clear c22
         by_cases c23 : a1 < (l0_1.length : Int)
         ·rw [if_pos c23] at H
          have c23b0 : decide (a1 < (l0_1.length : Int)) = true := decide_eq_true c23
          clear c23
          replace H := Option.bind_eq_some_iff.mp H
          obtain ⟨t106, A240, H⟩ := H
          replace H : (if t106 = true then (some false) else (impl_ShareBook_can.l0 k1 a1 l2 l0_1 (l0_1.length : Int) (wrap64 (x12_1 + 1)) l0_0 l0_1)) = some r := H
          have A24 := Aside0.mk A240
          clear A240
          by_cases c25 : t106 = true
          ·subst c25
           have H1 : (some false) = some r := by rw [if_pos rfl] at H; exact H
           clear H
           have H := H1
           clear H1
           obtain rfl := Option.some.inj H
           have p102 : 0 ≤ (x12_1 : Int) := of_decide_eq_true (pY58)
           have q102 : x12_1 < (l0_1.length : Int) := of_decide_eq_true (pY58)
           obtain ⟨ad102, A102_1, c102_1, A102_2, c102_2, e102, hx102_0, hx102_1, hx102_2, hl102_1, hi102_1, hl102_2, hi102_2⟩ := at_T56 HR0_1.out x12_1 p102 q102
           cases e102
           replace hx102_0 := (HB.out.cell (World.block_lt_of_cell? w _ hx102_0)).trans hx102_0
           replace hx102_1 := (HB.out.cell (World.block_lt_of_cell? w _ hx102_1)).trans hx102_1
           replace hx102_2 := (HB.out.cell (World.block_lt_of_cell? w _ hx102_2)).trans hx102_2
           have HR102_1 := Aside0.mk hi102_1
           have HC102_1 := Aside0.mk hl102_1
           clear hi102_1 hl102_1
           have HR102_2 := Aside0.mk hi102_2
           have HC102_2 := Aside0.mk hl102_2
           clear hi102_2 hl102_2
           replace p102 := eq_true p102
           replace q102 := eq_true q102
           try go_wp2_with (first | ((with_reducible refine gate_dst (N := 8) rfl ?_); refine box_event ?hg (N := 8) ?hd (cs := #[.string (⟨#[]⟩ : ByteArray), .slice none 0 0, .slice none 0 0]) (t := 56) ?hr ?_; (case hd => rfl); (case hg => rfl); (case hr => first | (go_simp; done) | (go_simp; rfl)); intro gb103 hg w26 hbox hb; have n0_ := Aside0.mk (blk_below (g := gb101) (o := .cells #[.slice A0_0 l0_0.length c0_0, .slice (some ad102) l0_1.length c0_1] 31 (0, 0)) (pY40) hb); have n1_ := Aside0.mk (below_step (pY37) hb); have n2_ := Aside0.mk (hbox); have n3_ := Aside0.mk ((pY27 : w.heap.size ≤ gb103)); have n4_ := Aside0.mk ((pY27 : w.heap.size ≤ gb103)); have n5_ := Aside0.mk ((pY15 : gb101 ≠ gb103)); have n6_ := Aside0.mk ((pY16 : gb103 ≠ gb101)); clear BK101; clear HB; have BK101 := n0_; have HB := n1_; have BK103 := n2_; have GW103 := n3_; have GE103 := n4_; have NB101_103 := n5_; have NB103_101 := n6_; clear n0_ n1_ n2_ n3_ n4_ n5_ n6_; clear hb hbox hg; have hnb27 := NB103_101.out; have hnc27 := NB101_103.out; have hcz28_0 : w26.cell? ⟨gb103, 0, none⟩ = some (.string (⟨#[]⟩ : ByteArray)) := (blk_cell BK103.out 0).trans rfl; have hcz28_1 : w26.cell? ⟨gb103, 1, none⟩ = some (.slice none 0 0) := (blk_cell BK103.out 1).trans rfl; have hcz28_2 : w26.cell? ⟨gb103, 2, none⟩ = some (.slice none 0 0) := (blk_cell BK103.out 2).trans rfl; have hfz28_0 := blk_frozen BK103.out 0; have hfz28_1 := blk_frozen BK103.out 1; have hfz28_2 := blk_frozen BK103.out 2))
           have n0_ : Aside0 ((((w26.setCell ⟨gb103, 0, none⟩ (.string ((rd_T56 l0_1 x12_1).f0))).setCell ⟨gb103, 1, none⟩ (.slice A102_1 ((rd_T56 l0_1 x12_1).f1).length c102_1)).setCell ⟨gb103, 2, none⟩ (.slice A102_2 ((rd_T56 l0_1 x12_1).f2).length c102_2)).heap[gb101]? = some (.cells #[.slice A0_0 l0_0.length c0_0, .slice (some ad102) l0_1.length c0_1] 31 (0, 0))) := ⟨by (with_reducible repeat (first | refine blk_drewN ?_ _ | refine blk_drew ?_ | refine blk_alloc ?_ _)); refine blk_far ?_ NB101_103.out _; (with_reducible repeat (first | refine blk_drewN ?_ _ | refine blk_drew ?_ | refine blk_alloc ?_ _)); refine blk_far ?_ NB101_103.out _; (with_reducible repeat (first | refine blk_drewN ?_ _ | refine blk_drew ?_ | refine blk_alloc ?_ _)); refine blk_far ?_ NB101_103.out _; (with_reducible repeat (first | refine blk_drewN ?_ _ | refine blk_drew ?_ | refine blk_alloc ?_ _)); exact BK101.out⟩
           have n1_ : Aside0 ((((w26.setCell ⟨gb103, 0, none⟩ (.string ((rd_T56 l0_1 x12_1).f0))).setCell ⟨gb103, 1, none⟩ (.slice A102_1 ((rd_T56 l0_1 x12_1).f1).length c102_1)).setCell ⟨gb103, 2, none⟩ (.slice A102_2 ((rd_T56 l0_1 x12_1).f2).length c102_2)).heap[gb103]? = some (.cells #[.string ((rd_T56 l0_1 x12_1).f0), .slice A102_1 ((rd_T56 l0_1 x12_1).f1).length c102_1, .slice A102_2 ((rd_T56 l0_1 x12_1).f2).length c102_2] 56 (0, 0))) := ⟨by (with_reducible repeat (first | refine blk_drewN ?_ _ | refine blk_drew ?_ | refine blk_alloc ?_ _)); refine blk_put (cs := #[.string ((rd_T56 l0_1 x12_1).f0), .slice A102_1 ((rd_T56 l0_1 x12_1).f1).length c102_1, .slice none 0 0]) ?_ 2 _ rfl; (with_reducible repeat (first | refine blk_drewN ?_ _ | refine blk_drew ?_ | refine blk_alloc ?_ _)); refine blk_put (cs := #[.string ((rd_T56 l0_1 x12_1).f0), .slice none 0 0, .slice none 0 0]) ?_ 1 _ rfl; (with_reducible repeat (first | refine blk_drewN ?_ _ | refine blk_drew ?_ | refine blk_alloc ?_ _)); refine blk_put (cs := #[.string (⟨#[]⟩ : ByteArray), .slice none 0 0, .slice none 0 0]) ?_ 0 _ rfl; (with_reducible repeat (first | refine blk_drewN ?_ _ | refine blk_drew ?_ | refine blk_alloc ?_ _)); exact BK103.out⟩
           have n2_ : Aside0 (Below w.heap.size w (((w26.setCell ⟨gb103, 0, none⟩ (.string ((rd_T56 l0_1 x12_1).f0))).setCell ⟨gb103, 1, none⟩ (.slice A102_1 ((rd_T56 l0_1 x12_1).f1).length c102_1)).setCell ⟨gb103, 2, none⟩ (.slice A102_2 ((rd_T56 l0_1 x12_1).f2).length c102_2))) := ⟨pY31⟩
           (try clear BK101)
           (try clear BK103)
           (try clear HB)
           generalize (((w26.setCell ⟨gb103, 0, none⟩ (.string ((rd_T56 l0_1 x12_1).f0))).setCell ⟨gb103, 1, none⟩ (.slice A102_1 ((rd_T56 l0_1 x12_1).f1).length c102_1)).setCell ⟨gb103, 2, none⟩ (.slice A102_2 ((rd_T56 l0_1 x12_1).f2).length c102_2)) = w29 at n0_ n1_ n2_ ⊢
           have BK101 := n0_
           have BK103 := n1_
           have HB := n2_
           clear n0_ n1_ n2_
           have n0_ := Aside0.mk (blk_drew BK101.out)
           have n1_ := Aside0.mk (blk_drew BK103.out)
           have n2_ := Aside0.mk (below_drew1 HB.out)
           clear BK101
           clear BK103
           clear HB
           have BK101 := n0_
           have BK103 := n1_
           have HB := n2_
           clear n0_ n1_ n2_
           have p105 : 0 ≤ (a1 : Int) := of_decide_eq_true (pY58)
           have q105 : a1 < (l0_1.length : Int) := of_decide_eq_true (pY58)
           obtain ⟨ad105, A105_1, c105_1, A105_2, c105_2, e105, hx105_0, hx105_1, hx105_2, hl105_1, hi105_1, hl105_2, hi105_2⟩ := at_T56 HR0_1.out a1 p105 q105
           have hw105_2 := hx105_2
           have hw105_1 := hx105_1
           have hw105_0 := hx105_0
           obtain rfl : ad102 = ad105 := (by injection e105)
           replace hx105_0 := (HB.out.cell (World.block_lt_of_cell? w _ hx105_0)).trans hx105_0
           replace hx105_1 := (HB.out.cell (World.block_lt_of_cell? w _ hx105_1)).trans hx105_1
           replace hx105_2 := (HB.out.cell (World.block_lt_of_cell? w _ hx105_2)).trans hx105_2
           have HR105_1 := Aside0.mk hi105_1
           have HC105_1 := Aside0.mk hl105_1
           clear hi105_1 hl105_1
           have HR105_2 := Aside0.mk hi105_2
           have HC105_2 := Aside0.mk hl105_2
           clear hi105_2 hl105_2
           replace p105 := eq_true p105
           replace q105 := eq_true q105
           refine start_ (n := 21) (S := fun w' => w'.cell? ⟨gb103, 0, none⟩ = some (.string ((rd_T56 l0_1 x12_1).f0)) ∧ w'.cell? ⟨gb103, 1, none⟩ = some (.slice A102_1 ((rd_T56 l0_1 x12_1).f1).length c102_1) ∧ w'.cell? ⟨gb103, 2, none⟩ = some (.slice A102_2 ((rd_T56 l0_1 x12_1).f2).length c102_2) ∧ w'.cell? ⟨gb101, 0, none⟩ = some (.slice A0_0 l0_0.length c0_0) ∧ w'.cell? ⟨gb101, 1, none⟩ = some (.slice (some ad102) l0_1.length c0_1) ∧ w'.cell? (ad102.add ((a1).toNat * 3)) = some (.string ((rd_T56 l0_1 a1).f0)) ∧ w'.cell? ⟨(ad102.add ((a1).toNat * 3)).block, (ad102.add ((a1).toNat * 3)).off + 1, none⟩ = some (.slice A105_1 ((rd_T56 l0_1 a1).f1).length c105_1) ∧ w'.cell? ⟨(ad102.add ((a1).toNat * 3)).block, (ad102.add ((a1).toNat * 3)).off + 2, none⟩ = some (.slice A105_2 ((rd_T56 l0_1 a1).f2).length c105_2)) (ds := []) #[ff,ff,ff,ff,ff,ff,ff,ff,ff,ff,ff,ff,ff,ff,ff,ff,ff,ff,ff,ff,ff] (by kernel_rfl) rfl rfl ⟨(blk_cell BK103.out 0).trans rfl, (blk_cell BK103.out 1).trans rfl, (blk_cell BK103.out 2).trans rfl, (blk_cell BK101.out 0).trans rfl, (blk_cell BK101.out 1).trans rfl, ((HB.out.cell (World.block_lt_of_cell? w _ hw105_0)).trans hw105_0), ((HB.out.cell (World.block_lt_of_cell? w _ hw105_1)).trans hw105_1), ((HB.out.cell (World.block_lt_of_cell? w _ hw105_2)).trans hw105_2)⟩ (fun hHeld => ?_); refine with_tabW impl_ShareBook_can.tab4 impl_ShareBook_can.bits4 (fun HT_ HW_ => ?_)
           generalize w29.drew = w30 at BK101 BK103 HB HR105_1 HR105_2 hx105_0 hx105_1 hx105_2 hHeld ⊢
           refine pU (i := 0) (N := some 17) #[tt,ff,ff,ff,ff,ff,ff,ff,ff,ff,ff,ff,ff,ff,ff,ff,ff,ff,ff,ff,ff] ?_
           refine pU (i := 1) (N := some 18) #[tt,tt,ff,ff,ff,ff,ff,ff,ff,ff,ff,ff,ff,ff,ff,ff,ff,ff,ff,ff,ff] ?_
           refine pU (i := 2) (N := some 19) #[tt,tt,tt,ff,ff,ff,ff,ff,ff,ff,ff,ff,ff,ff,ff,ff,ff,ff,ff,ff,ff] ?_
           refine pU (i := 3) (N := some 20) #[tt,tt,tt,tt,ff,ff,ff,ff,ff,ff,ff,ff,ff,ff,ff,ff,ff,ff,ff,ff,ff] ?_
           refine pU (i := 4) (N := some 21) #[tt,tt,tt,tt,tt,ff,ff,ff,ff,ff,ff,ff,ff,ff,ff,ff,ff,ff,ff,ff,ff] ?_
           refine pU (i := 5) (N := some 22) #[tt,tt,tt,tt,tt,tt,ff,ff,ff,ff,ff,ff,ff,ff,ff,ff,ff,ff,ff,ff,ff] ?_
           refine tK8 (i := 6) (N := some 23) #[tt,tt,tt,tt,tt,tt,tt,ff,ff,ff,ff,ff,ff,ff,ff,ff,ff,ff,ff,ff,ff] ?_
           refine one_ (i := 7) (N := some 24) #[tt,tt,tt,tt,tt,tt,tt,tt,ff,ff,ff,ff,ff,ff,ff,ff,ff,ff,ff,ff,ff] rfl rfl (one_of HT_.out (by kernel_rfl)) (by decide) (fun K hK => ?_)
           refine goes_ Try.func81 (by kernel_rfl) rfl #[.slice A2 l2.length c2, .string ((rd_T56 l0_1 x12_1).f0)] (by rfl) rfl rfl (pY38) ?_
           with_reducible refine (slices_Contains_string_string.calls k1 _ _ l2 ((rd_T56 l0_1 x12_1).f0) false _ ?side1 ?side2 A15.out).mono ?_
           (case side1 => exact pC (Kd.C_below HR2.out HB.out))
           (case side2 => exact HC2.out)
           rintro e w' ⟨rfl, ⟨nd, rfl⟩⟩
           refine ⟨_, rfl, ?_⟩
           refine hK.out _ _ ⟨(blk_cell BK103.out 0).trans rfl, (blk_cell BK103.out 1).trans rfl, (blk_cell BK103.out 2).trans rfl, (blk_cell BK101.out 0).trans rfl, (blk_cell BK101.out 1).trans rfl, ((HB.out.cell (World.block_lt_of_cell? w _ hw105_0)).trans hw105_0), ((HB.out.cell (World.block_lt_of_cell? w _ hw105_1)).trans hw105_1), ((HB.out.cell (World.block_lt_of_cell? w _ hw105_2)).trans hw105_2)⟩ (fun hHeld => ?_)
           clear hK K
           refine norm_ (a' := ?_) ?_ ?_
           rotate_left
           ·show Act.put _ (some 24) _ = _
            simp only [pW]
            rfl
           refine pU (i := 8) (N := some 25) #[tt,tt,tt,tt,tt,tt,tt,tt,tt,ff,ff,ff,ff,ff,ff,ff,ff,ff,ff,ff,ff] ?_
           refine pU (i := 9) (N := some 26) #[tt,tt,tt,tt,tt,tt,tt,tt,tt,tt,ff,ff,ff,ff,ff,ff,ff,ff,ff,ff,ff] ?_
           refine pU (i := 10) (N := some 27) #[tt,tt,tt,tt,tt,tt,tt,tt,tt,tt,tt,ff,ff,ff,ff,ff,ff,ff,ff,ff,ff] ?_
           refine pU (i := 11) (N := some 28) #[tt,tt,tt,tt,tt,tt,tt,tt,tt,tt,tt,tt,ff,ff,ff,ff,ff,ff,ff,ff,ff] ?_
           refine pU (i := 13) (N := some 30) #[tt,tt,tt,tt,tt,tt,tt,tt,tt,tt,tt,tt,ff,tt,ff,ff,ff,ff,ff,ff,ff] ?_
           refine pU (i := 15) (N := some 32) #[tt,tt,tt,tt,tt,tt,tt,tt,tt,tt,tt,tt,ff,tt,ff,tt,ff,ff,ff,ff,ff] ?_
           refine tK8 (i := 12) (N := some 29) #[tt,tt,tt,tt,tt,tt,tt,tt,tt,tt,tt,tt,tt,tt,ff,tt,ff,ff,ff,ff,ff] ?_
           refine tK8 (i := 14) (N := some 31) #[tt,tt,tt,tt,tt,tt,tt,tt,tt,tt,tt,tt,tt,tt,tt,tt,ff,ff,ff,ff,ff] ?_
           refine pU (i := 16) (N := some 33) #[tt,tt,tt,tt,tt,tt,tt,tt,tt,tt,tt,tt,tt,tt,tt,tt,tt,ff,ff,ff,ff] ?_
           refine pU (i := 17) (N := some 34) #[tt,tt,tt,tt,tt,tt,tt,tt,tt,tt,tt,tt,tt,tt,tt,tt,tt,tt,ff,ff,ff] ?_
           refine tK8 (i := 18) (N := some 35) #[tt,tt,tt,tt,tt,tt,tt,tt,tt,tt,tt,tt,tt,tt,tt,tt,tt,tt,tt,ff,ff] ?_
           refine one_ (i := 19) (N := some 36) #[tt,tt,tt,tt,tt,tt,tt,tt,tt,tt,tt,tt,tt,tt,tt,tt,tt,tt,tt,tt,ff] rfl rfl (one_of HT_.out (by kernel_rfl)) (by decide) (fun K hK => ?_)
           refine goes_ Try.func78 (by kernel_rfl) rfl #[.slice A102_1 ((rd_T56 l0_1 x12_1).f1).length c102_1, .slice A105_2 ((rd_T56 l0_1 a1).f2).length c105_2] (by rfl) rfl rfl (pY38) ?_
           with_reducible refine (impl_common.calls _ _ ((rd_T56 l0_1 x12_1).f1) _ _ ((rd_T56 l0_1 a1).f2) true _ ?side1 ?side2 ?side3 ?side4 A24.out).mono ?_
           (case side1 => exact pC (Kd.C_below HR102_1.out (pY31)))
           (case side2 => exact HC102_1.out)
           (case side3 => exact pC (Kd.C_below HR105_2.out (pY31)))
           (case side4 => exact HC105_2.out)
           rintro e w31 ⟨rfl, hb⟩
           refine ⟨_, rfl, ?_⟩
           have n0_ := Aside0.mk (blk_below (g := gb101) (o := .cells #[.slice A0_0 l0_0.length c0_0, .slice (some ad102) l0_1.length c0_1] 31 (0, 0)) (pY40) hb)
           have n1_ := Aside0.mk (blk_below (g := gb103) (o := .cells #[.string ((rd_T56 l0_1 x12_1).f0), .slice A102_1 ((rd_T56 l0_1 x12_1).f1).length c102_1, .slice A102_2 ((rd_T56 l0_1 x12_1).f2).length c102_2] 56 (0, 0)) (by (with_reducible repeat (first | refine blk_drewN ?_ _ | refine blk_drew ?_ | refine blk_alloc ?_ _)); exact BK103.out) hb)
           have n2_ := Aside0.mk (below_step (pY31) hb)
           clear BK101
           clear BK103
           clear HB
           have BK101 := n0_
           have BK103 := n1_
           have HB := n2_
           clear n0_ n1_ n2_
           (try clear hb)
           (try clear hb2)
           (try clear hk)
           (try clear hi)
           refine hK.out _ _ ⟨(blk_cell BK103.out 0).trans rfl, (blk_cell BK103.out 1).trans rfl, (blk_cell BK103.out 2).trans rfl, (blk_cell BK101.out 0).trans rfl, (blk_cell BK101.out 1).trans rfl, ((HB.out.cell (World.block_lt_of_cell? w _ hw105_0)).trans hw105_0), ((HB.out.cell (World.block_lt_of_cell? w _ hw105_1)).trans hw105_1), ((HB.out.cell (World.block_lt_of_cell? w _ hw105_2)).trans hw105_2)⟩ (fun hHeld => ?_)
           clear hK K
           refine norm_ (a' := ?_) ?_ ?_
           rotate_left
           ·show Act.put _ (some 36) _ = _
            simp only [pW]
            rfl
           refine pU (i := 20) (N := some 37) #[tt,tt,tt,tt,tt,tt,tt,tt,tt,tt,tt,tt,tt,tt,tt,tt,tt,tt,tt,tt,tt] ?_
           refine done_ (done_of HT_.out (by kernel_rfl)) ?_
           try go_wp2
           go_ret
           exact ⟨by first | rfl | (simp [errW_none, errW_some] <;> rfl) | (simp [*, errW_none, errW_some] <;> rfl), pY31⟩
          ·replace c25 := Bool.eq_false_iff.mpr c25
           subst c25
           have H1 : (impl_ShareBook_can.l0 k1 a1 l2 l0_1 (l0_1.length : Int) (wrap64 (x12_1 + 1)) l0_0 l0_1) = some r := by rw [if_neg (show ¬ (false = true) by decide)] at H; exact H
           clear H
           have H := H1
           clear H1
           have H' := Aside0.mk H
           clear H
           have p102 : 0 ≤ (x12_1 : Int) := of_decide_eq_true (pY58)
           have q102 : x12_1 < (l0_1.length : Int) := of_decide_eq_true (pY58)
           obtain ⟨ad102, A102_1, c102_1, A102_2, c102_2, e102, hx102_0, hx102_1, hx102_2, hl102_1, hi102_1, hl102_2, hi102_2⟩ := at_T56 HR0_1.out x12_1 p102 q102
           cases e102
           replace hx102_0 := (HB.out.cell (World.block_lt_of_cell? w _ hx102_0)).trans hx102_0
           replace hx102_1 := (HB.out.cell (World.block_lt_of_cell? w _ hx102_1)).trans hx102_1
           replace hx102_2 := (HB.out.cell (World.block_lt_of_cell? w _ hx102_2)).trans hx102_2
           have HR102_1 := Aside0.mk hi102_1
           have HC102_1 := Aside0.mk hl102_1
           clear hi102_1 hl102_1
           have HR102_2 := Aside0.mk hi102_2
           have HC102_2 := Aside0.mk hl102_2
           clear hi102_2 hl102_2
           replace p102 := eq_true p102
           replace q102 := eq_true q102
           try go_wp2_with (first | ((with_reducible refine gate_dst (N := 8) rfl ?_); refine box_event ?hg (N := 8) ?hd (cs := #[.string (⟨#[]⟩ : ByteArray), .slice none 0 0, .slice none 0 0]) (t := 56) ?hr ?_; (case hd => rfl); (case hg => rfl); (case hr => first | (go_simp; done) | (go_simp; rfl)); intro gb103 hg w32 hbox hb; have n0_ := Aside0.mk (blk_below (g := gb101) (o := .cells #[.slice A0_0 l0_0.length c0_0, .slice (some ad102) l0_1.length c0_1] 31 (0, 0)) (pY40) hb); have n1_ := Aside0.mk (below_step (pY37) hb); have n2_ := Aside0.mk (hbox); have n3_ := Aside0.mk ((pY27 : w.heap.size ≤ gb103)); have n4_ := Aside0.mk ((pY27 : w.heap.size ≤ gb103)); have n5_ := Aside0.mk ((pY15 : gb101 ≠ gb103)); have n6_ := Aside0.mk ((pY16 : gb103 ≠ gb101)); clear BK101; clear HB; have BK101 := n0_; have HB := n1_; have BK103 := n2_; have GW103 := n3_; have GE103 := n4_; have NB101_103 := n5_; have NB103_101 := n6_; clear n0_ n1_ n2_ n3_ n4_ n5_ n6_; clear hb hbox hg; have hnb33 := NB103_101.out; have hnc33 := NB101_103.out; have hcz34_0 : w32.cell? ⟨gb103, 0, none⟩ = some (.string (⟨#[]⟩ : ByteArray)) := (blk_cell BK103.out 0).trans rfl; have hcz34_1 : w32.cell? ⟨gb103, 1, none⟩ = some (.slice none 0 0) := (blk_cell BK103.out 1).trans rfl; have hcz34_2 : w32.cell? ⟨gb103, 2, none⟩ = some (.slice none 0 0) := (blk_cell BK103.out 2).trans rfl; have hfz34_0 := blk_frozen BK103.out 0; have hfz34_1 := blk_frozen BK103.out 1; have hfz34_2 := blk_frozen BK103.out 2))
           have n0_ : Aside0 ((((w32.setCell ⟨gb103, 0, none⟩ (.string ((rd_T56 l0_1 x12_1).f0))).setCell ⟨gb103, 1, none⟩ (.slice A102_1 ((rd_T56 l0_1 x12_1).f1).length c102_1)).setCell ⟨gb103, 2, none⟩ (.slice A102_2 ((rd_T56 l0_1 x12_1).f2).length c102_2)).heap[gb101]? = some (.cells #[.slice A0_0 l0_0.length c0_0, .slice (some ad102) l0_1.length c0_1] 31 (0, 0))) := ⟨by (with_reducible repeat (first | refine blk_drewN ?_ _ | refine blk_drew ?_ | refine blk_alloc ?_ _)); refine blk_far ?_ NB101_103.out _; (with_reducible repeat (first | refine blk_drewN ?_ _ | refine blk_drew ?_ | refine blk_alloc ?_ _)); refine blk_far ?_ NB101_103.out _; (with_reducible repeat (first | refine blk_drewN ?_ _ | refine blk_drew ?_ | refine blk_alloc ?_ _)); refine blk_far ?_ NB101_103.out _; (with_reducible repeat (first | refine blk_drewN ?_ _ | refine blk_drew ?_ | refine blk_alloc ?_ _)); exact BK101.out⟩
           have n1_ : Aside0 ((((w32.setCell ⟨gb103, 0, none⟩ (.string ((rd_T56 l0_1 x12_1).f0))).setCell ⟨gb103, 1, none⟩ (.slice A102_1 ((rd_T56 l0_1 x12_1).f1).length c102_1)).setCell ⟨gb103, 2, none⟩ (.slice A102_2 ((rd_T56 l0_1 x12_1).f2).length c102_2)).heap[gb103]? = some (.cells #[.string ((rd_T56 l0_1 x12_1).f0), .slice A102_1 ((rd_T56 l0_1 x12_1).f1).length c102_1, .slice A102_2 ((rd_T56 l0_1 x12_1).f2).length c102_2] 56 (0, 0))) := ⟨by (with_reducible repeat (first | refine blk_drewN ?_ _ | refine blk_drew ?_ | refine blk_alloc ?_ _)); refine blk_put (cs := #[.string ((rd_T56 l0_1 x12_1).f0), .slice A102_1 ((rd_T56 l0_1 x12_1).f1).length c102_1, .slice none 0 0]) ?_ 2 _ rfl; (with_reducible repeat (first | refine blk_drewN ?_ _ | refine blk_drew ?_ | refine blk_alloc ?_ _)); refine blk_put (cs := #[.string ((rd_T56 l0_1 x12_1).f0), .slice none 0 0, .slice none 0 0]) ?_ 1 _ rfl; (with_reducible repeat (first | refine blk_drewN ?_ _ | refine blk_drew ?_ | refine blk_alloc ?_ _)); refine blk_put (cs := #[.string (⟨#[]⟩ : ByteArray), .slice none 0 0, .slice none 0 0]) ?_ 0 _ rfl; (with_reducible repeat (first | refine blk_drewN ?_ _ | refine blk_drew ?_ | refine blk_alloc ?_ _)); exact BK103.out⟩
           have n2_ : Aside0 (Below w.heap.size w (((w32.setCell ⟨gb103, 0, none⟩ (.string ((rd_T56 l0_1 x12_1).f0))).setCell ⟨gb103, 1, none⟩ (.slice A102_1 ((rd_T56 l0_1 x12_1).f1).length c102_1)).setCell ⟨gb103, 2, none⟩ (.slice A102_2 ((rd_T56 l0_1 x12_1).f2).length c102_2))) := ⟨pY31⟩
           (try clear BK101)
           (try clear BK103)
           (try clear HB)
           generalize (((w32.setCell ⟨gb103, 0, none⟩ (.string ((rd_T56 l0_1 x12_1).f0))).setCell ⟨gb103, 1, none⟩ (.slice A102_1 ((rd_T56 l0_1 x12_1).f1).length c102_1)).setCell ⟨gb103, 2, none⟩ (.slice A102_2 ((rd_T56 l0_1 x12_1).f2).length c102_2)) = w35 at n0_ n1_ n2_ ⊢
           have BK101 := n0_
           have BK103 := n1_
           have HB := n2_
           clear n0_ n1_ n2_
           have n0_ := Aside0.mk (blk_drew BK101.out)
           have n1_ := Aside0.mk (blk_drew BK103.out)
           have n2_ := Aside0.mk (below_drew1 HB.out)
           clear BK101
           clear BK103
           clear HB
           have BK101 := n0_
           have BK103 := n1_
           have HB := n2_
           clear n0_ n1_ n2_
           have p105 : 0 ≤ (a1 : Int) := of_decide_eq_true (pY58)
           have q105 : a1 < (l0_1.length : Int) := of_decide_eq_true (pY58)
           obtain ⟨ad105, A105_1, c105_1, A105_2, c105_2, e105, hx105_0, hx105_1, hx105_2, hl105_1, hi105_1, hl105_2, hi105_2⟩ := at_T56 HR0_1.out a1 p105 q105
           have hw105_2 := hx105_2
           have hw105_1 := hx105_1
           have hw105_0 := hx105_0
           obtain rfl : ad102 = ad105 := (by injection e105)
           replace hx105_0 := (HB.out.cell (World.block_lt_of_cell? w _ hx105_0)).trans hx105_0
           replace hx105_1 := (HB.out.cell (World.block_lt_of_cell? w _ hx105_1)).trans hx105_1
           replace hx105_2 := (HB.out.cell (World.block_lt_of_cell? w _ hx105_2)).trans hx105_2
           have HR105_1 := Aside0.mk hi105_1
           have HC105_1 := Aside0.mk hl105_1
           clear hi105_1 hl105_1
           have HR105_2 := Aside0.mk hi105_2
           have HC105_2 := Aside0.mk hl105_2
           clear hi105_2 hl105_2
           replace p105 := eq_true p105
           replace q105 := eq_true q105
           refine start_ (n := 21) (S := fun w' => w'.cell? ⟨gb103, 0, none⟩ = some (.string ((rd_T56 l0_1 x12_1).f0)) ∧ w'.cell? ⟨gb103, 1, none⟩ = some (.slice A102_1 ((rd_T56 l0_1 x12_1).f1).length c102_1) ∧ w'.cell? ⟨gb103, 2, none⟩ = some (.slice A102_2 ((rd_T56 l0_1 x12_1).f2).length c102_2) ∧ w'.cell? ⟨gb101, 0, none⟩ = some (.slice A0_0 l0_0.length c0_0) ∧ w'.cell? ⟨gb101, 1, none⟩ = some (.slice (some ad102) l0_1.length c0_1) ∧ w'.cell? (ad102.add ((a1).toNat * 3)) = some (.string ((rd_T56 l0_1 a1).f0)) ∧ w'.cell? ⟨(ad102.add ((a1).toNat * 3)).block, (ad102.add ((a1).toNat * 3)).off + 1, none⟩ = some (.slice A105_1 ((rd_T56 l0_1 a1).f1).length c105_1) ∧ w'.cell? ⟨(ad102.add ((a1).toNat * 3)).block, (ad102.add ((a1).toNat * 3)).off + 2, none⟩ = some (.slice A105_2 ((rd_T56 l0_1 a1).f2).length c105_2)) (ds := []) #[ff,ff,ff,ff,ff,ff,ff,ff,ff,ff,ff,ff,ff,ff,ff,ff,ff,ff,ff,ff,ff] (by kernel_rfl) rfl rfl ⟨(blk_cell BK103.out 0).trans rfl, (blk_cell BK103.out 1).trans rfl, (blk_cell BK103.out 2).trans rfl, (blk_cell BK101.out 0).trans rfl, (blk_cell BK101.out 1).trans rfl, ((HB.out.cell (World.block_lt_of_cell? w _ hw105_0)).trans hw105_0), ((HB.out.cell (World.block_lt_of_cell? w _ hw105_1)).trans hw105_1), ((HB.out.cell (World.block_lt_of_cell? w _ hw105_2)).trans hw105_2)⟩ (fun hHeld => ?_); refine with_tabW impl_ShareBook_can.tab4 impl_ShareBook_can.bits4 (fun HT_ HW_ => ?_)
           generalize w35.drew = w36 at BK101 BK103 HB HR105_1 HR105_2 hx105_0 hx105_1 hx105_2 hHeld ⊢
           refine pU (i := 0) (N := some 17) #[tt,ff,ff,ff,ff,ff,ff,ff,ff,ff,ff,ff,ff,ff,ff,ff,ff,ff,ff,ff,ff] ?_
           refine pU (i := 1) (N := some 18) #[tt,tt,ff,ff,ff,ff,ff,ff,ff,ff,ff,ff,ff,ff,ff,ff,ff,ff,ff,ff,ff] ?_
           refine pU (i := 2) (N := some 19) #[tt,tt,tt,ff,ff,ff,ff,ff,ff,ff,ff,ff,ff,ff,ff,ff,ff,ff,ff,ff,ff] ?_
           refine pU (i := 3) (N := some 20) #[tt,tt,tt,tt,ff,ff,ff,ff,ff,ff,ff,ff,ff,ff,ff,ff,ff,ff,ff,ff,ff] ?_
           refine pU (i := 4) (N := some 21) #[tt,tt,tt,tt,tt,ff,ff,ff,ff,ff,ff,ff,ff,ff,ff,ff,ff,ff,ff,ff,ff] ?_
           refine pU (i := 5) (N := some 22) #[tt,tt,tt,tt,tt,tt,ff,ff,ff,ff,ff,ff,ff,ff,ff,ff,ff,ff,ff,ff,ff] ?_
           refine tK8 (i := 6) (N := some 23) #[tt,tt,tt,tt,tt,tt,tt,ff,ff,ff,ff,ff,ff,ff,ff,ff,ff,ff,ff,ff,ff] ?_
           refine one_ (i := 7) (N := some 24) #[tt,tt,tt,tt,tt,tt,tt,tt,ff,ff,ff,ff,ff,ff,ff,ff,ff,ff,ff,ff,ff] rfl rfl (one_of HT_.out (by kernel_rfl)) (by decide) (fun K hK => ?_)
           refine goes_ Try.func81 (by kernel_rfl) rfl #[.slice A2 l2.length c2, .string ((rd_T56 l0_1 x12_1).f0)] (by rfl) rfl rfl (pY38) ?_
           with_reducible refine (slices_Contains_string_string.calls k1 _ _ l2 ((rd_T56 l0_1 x12_1).f0) false _ ?side1 ?side2 A15.out).mono ?_
           (case side1 => exact pC (Kd.C_below HR2.out HB.out))
           (case side2 => exact HC2.out)
           rintro e w' ⟨rfl, ⟨nd, rfl⟩⟩
           refine ⟨_, rfl, ?_⟩
           refine hK.out _ _ ⟨(blk_cell BK103.out 0).trans rfl, (blk_cell BK103.out 1).trans rfl, (blk_cell BK103.out 2).trans rfl, (blk_cell BK101.out 0).trans rfl, (blk_cell BK101.out 1).trans rfl, ((HB.out.cell (World.block_lt_of_cell? w _ hw105_0)).trans hw105_0), ((HB.out.cell (World.block_lt_of_cell? w _ hw105_1)).trans hw105_1), ((HB.out.cell (World.block_lt_of_cell? w _ hw105_2)).trans hw105_2)⟩ (fun hHeld => ?_)
           clear hK K
           refine norm_ (a' := ?_) ?_ ?_
           rotate_left
           ·show Act.put _ (some 24) _ = _
            simp only [pW]
            rfl
           refine pU (i := 8) (N := some 25) #[tt,tt,tt,tt,tt,tt,tt,tt,tt,ff,ff,ff,ff,ff,ff,ff,ff,ff,ff,ff,ff] ?_
           refine pU (i := 9) (N := some 26) #[tt,tt,tt,tt,tt,tt,tt,tt,tt,tt,ff,ff,ff,ff,ff,ff,ff,ff,ff,ff,ff] ?_
           refine pU (i := 10) (N := some 27) #[tt,tt,tt,tt,tt,tt,tt,tt,tt,tt,tt,ff,ff,ff,ff,ff,ff,ff,ff,ff,ff] ?_
           refine pU (i := 11) (N := some 28) #[tt,tt,tt,tt,tt,tt,tt,tt,tt,tt,tt,tt,ff,ff,ff,ff,ff,ff,ff,ff,ff] ?_
           refine pU (i := 13) (N := some 30) #[tt,tt,tt,tt,tt,tt,tt,tt,tt,tt,tt,tt,ff,tt,ff,ff,ff,ff,ff,ff,ff] ?_
           refine pU (i := 15) (N := some 32) #[tt,tt,tt,tt,tt,tt,tt,tt,tt,tt,tt,tt,ff,tt,ff,tt,ff,ff,ff,ff,ff] ?_
           refine tK8 (i := 12) (N := some 29) #[tt,tt,tt,tt,tt,tt,tt,tt,tt,tt,tt,tt,tt,tt,ff,tt,ff,ff,ff,ff,ff] ?_
           refine tK8 (i := 14) (N := some 31) #[tt,tt,tt,tt,tt,tt,tt,tt,tt,tt,tt,tt,tt,tt,tt,tt,ff,ff,ff,ff,ff] ?_
           refine pU (i := 16) (N := some 33) #[tt,tt,tt,tt,tt,tt,tt,tt,tt,tt,tt,tt,tt,tt,tt,tt,tt,ff,ff,ff,ff] ?_
           refine pU (i := 17) (N := some 34) #[tt,tt,tt,tt,tt,tt,tt,tt,tt,tt,tt,tt,tt,tt,tt,tt,tt,tt,ff,ff,ff] ?_
           refine tK8 (i := 18) (N := some 35) #[tt,tt,tt,tt,tt,tt,tt,tt,tt,tt,tt,tt,tt,tt,tt,tt,tt,tt,tt,ff,ff] ?_
           refine one_ (i := 19) (N := some 36) #[tt,tt,tt,tt,tt,tt,tt,tt,tt,tt,tt,tt,tt,tt,tt,tt,tt,tt,tt,tt,ff] rfl rfl (one_of HT_.out (by kernel_rfl)) (by decide) (fun K hK => ?_)
           refine goes_ Try.func78 (by kernel_rfl) rfl #[.slice A102_1 ((rd_T56 l0_1 x12_1).f1).length c102_1, .slice A105_2 ((rd_T56 l0_1 a1).f2).length c105_2] (by rfl) rfl rfl (pY38) ?_
           with_reducible refine (impl_common.calls _ _ ((rd_T56 l0_1 x12_1).f1) _ _ ((rd_T56 l0_1 a1).f2) false _ ?side1 ?side2 ?side3 ?side4 A24.out).mono ?_
           (case side1 => exact pC (Kd.C_below HR102_1.out (pY31)))
           (case side2 => exact HC102_1.out)
           (case side3 => exact pC (Kd.C_below HR105_2.out (pY31)))
           (case side4 => exact HC105_2.out)
           rintro e w37 ⟨rfl, hb⟩
           refine ⟨_, rfl, ?_⟩
           have n0_ := Aside0.mk (blk_below (g := gb101) (o := .cells #[.slice A0_0 l0_0.length c0_0, .slice (some ad102) l0_1.length c0_1] 31 (0, 0)) (pY40) hb)
           have n1_ := Aside0.mk (blk_below (g := gb103) (o := .cells #[.string ((rd_T56 l0_1 x12_1).f0), .slice A102_1 ((rd_T56 l0_1 x12_1).f1).length c102_1, .slice A102_2 ((rd_T56 l0_1 x12_1).f2).length c102_2] 56 (0, 0)) (by (with_reducible repeat (first | refine blk_drewN ?_ _ | refine blk_drew ?_ | refine blk_alloc ?_ _)); exact BK103.out) hb)
           have n2_ := Aside0.mk (below_step (pY31) hb)
           clear BK101
           clear BK103
           clear HB
           have BK101 := n0_
           have BK103 := n1_
           have HB := n2_
           clear n0_ n1_ n2_
           (try clear hb)
           (try clear hb2)
           (try clear hk)
           (try clear hi)
           refine hK.out _ _ ⟨(blk_cell BK103.out 0).trans rfl, (blk_cell BK103.out 1).trans rfl, (blk_cell BK103.out 2).trans rfl, (blk_cell BK101.out 0).trans rfl, (blk_cell BK101.out 1).trans rfl, ((HB.out.cell (World.block_lt_of_cell? w _ hw105_0)).trans hw105_0), ((HB.out.cell (World.block_lt_of_cell? w _ hw105_1)).trans hw105_1), ((HB.out.cell (World.block_lt_of_cell? w _ hw105_2)).trans hw105_2)⟩ (fun hHeld => ?_)
           clear hK K
           refine norm_ (a' := ?_) ?_ ?_
           rotate_left
           ·show Act.put _ (some 36) _ = _
            simp only [pW]
            rfl
           refine pU (i := 20) (N := some 37) #[tt,tt,tt,tt,tt,tt,tt,tt,tt,tt,tt,tt,tt,tt,tt,tt,tt,tt,tt,tt,tt] ?_
           refine done_ (done_of HT_.out (by kernel_rfl)) ?_
           try go_wp2
           go_roundg k1
           case measure => have := HK1.out; omega
           case rel => exact ⟨(wrap64 (x12_1 + 1)), (pY59), H', ⟨by have := HK1.out; omega⟩, ⟨by (with_reducible repeat (first | refine blk_drewN ?_ _ | refine blk_drew ?_ | refine blk_alloc ?_ _)); exact BK101.out⟩, ⟨pY31⟩⟩
         ·rw [if_neg c23] at H
          exact absurd H (by simp)
        ·rw [if_neg c22] at H
         exact absurd H (by simp)
     ·rw [if_neg c8] at H
      exact absurd H (by simp)
    ·rw [if_neg c7] at H
     exact absurd H (by simp)
   ·rw [if_neg c6] at H
    have c6b0 : decide (x12_1 < (l0_1.length : Int)) = false := decide_eq_false c6
    clear c6
    obtain rfl := Option.some.inj H
    go_wp2
    go_ret
    exact ⟨by first | rfl | (simp [errW_none, errW_some] <;> rfl) | (simp [*, errW_none, errW_some] <;> rfl), pY37⟩
end Go.Proofs.Ytaofjgnhapnndaa.Q
namespace Go.Proofs.Ytaofjgnhapnndaa.Q
open Go.RowKit Go.Proofs.YtaofjgnhapnndaaW.PrintWords Go.Proofs.YtaofjgnhapnndaaW.PrintLast Go.Proofs.YtaofjgnhapnndaaW.PrintMore
set_option linter.unusedVariables false
set_option linter.unusedSimpArgs false
def canP (bs : List IB) (at_ : Nat) (gone : List ByteArray) (q : Nat) : Bool := decide (q = at_) || (hasS gone (gB bs q).f0 || !shareB (gB bs q).f1 (gB bs at_).f2)
def canB (bs : List IB) (at_ : Nat) (gone : List ByteArray) : Bool := allR (canP bs at_ gone) bs.length 0
theorem spec_l2Can_ev (ts : List ByteArray) (bs : List IB) (at_ : Nat) (gone : List ByteArray) (hl : bs.length ≤ 9223372036854775807) (hb : Bok bs) (ha : at_ < bs.length) (hg : gone.length ≤ 9223372036854775807) : Ev (fun k => spec_l2Can.f k ts bs (at_ : Int) gone) (canB bs at_ gone) := by
  unfold spec_l2Can.f
  have b0 := hb.at_ ha
  refine Ev.loop (f := fun k i => spec_l2Can.l0 k (at_ : Int) gone (i : Int) ts bs) (val := allR (canP bs at_ gone) bs.length) bs.length ?_ ?_ 0 (by omega)
  · rw [allR_end]
    refine Ev.step (fun k => spec_l2Can.l0.eq_2 _ gone _ ts bs k) ?_
    exact Ev.neg (by omega) (Ev.ret rfl)
  · intro i hi H
    rw [allR_step _ hi]
    refine Ev.step (fun k => spec_l2Can.l0.eq_2 _ gone _ ts bs k) ?_
    refine Ev.pos (by omega) ?_
    rw [wrap_up hi hl, rdB_cast, rdB_cast]
    have bi := hb.at_ hi
    refine Ev.prop (fun h => Ev.sub H (by simp [canP, show i = at_ by omega])) (fun h => Ev.pos (by omega) (Ev.bind (spec_l1Has_ev gone _ hg) ?_))
    have hne : decide (i = at_) = false := decide_eq_false (by omega)
    refine Ev.test _ (fun h1 => Ev.sub H (by simp [canP, h1])) (fun h1 => Ev.pos (by omega) (Ev.pos (by omega) (Ev.bind (spec_l1Share_ev _ _ bi.1 b0.2) ?_)))
    refine Ev.test _ (fun h2 => Ev.ret (by simp [canP, h1, h2, hne])) (fun h2 => Ev.sub H (by simp [canP, h2]))
theorem impl_can_ev (ts : List ByteArray) (bs : List IB) (at_ : Nat) (gone : List ByteArray) (hl : bs.length ≤ 9223372036854775807) (ha : at_ < bs.length) (hg : gone.length ≤ 9223372036854775807) : Ev (fun k => impl_ShareBook_can.f k ts bs (at_ : Int) gone) (canB bs at_ gone) := by
  unfold impl_ShareBook_can.f
  refine Ev.loop (f := fun k i => impl_ShareBook_can.l0 k (at_ : Int) gone bs (bs.length : Int) (i : Int) ts bs) (val := allR (canP bs at_ gone) bs.length) bs.length ?_ ?_ 0 (by omega)
  · rw [allR_end]
    refine Ev.step (fun k => impl_ShareBook_can.l0.eq_2 _ gone bs _ _ ts bs k) ?_
    exact Ev.neg (by omega) (Ev.ret rfl)
  · intro i hi H
    rw [allR_step _ hi]
    refine Ev.step (fun k => impl_ShareBook_can.l0.eq_2 _ gone bs _ _ ts bs k) ?_
    refine Ev.pos (by omega) (Ev.pos (by omega) (Ev.pos (by omega) ?_))
    rw [wrap_up hi hl, rdB_cast, rdB_cast]
    refine Ev.prop (fun h => Ev.sub H (by simp [canP, show i = at_ by omega])) (fun h => Ev.bind (contains_ev gone _ hg) ?_)
    have hne : decide (i = at_) = false := decide_eq_false (by omega)
    refine Ev.test _ (fun h1 => Ev.sub H (by simp [canP, h1])) (fun h1 => Ev.pos (by omega) (Ev.pos (by omega) ?_))
    simp only [impl_common.f, Option.bind_some]
    refine Ev.test _ (fun h2 => Ev.ret (by simp [canP, h1, hne, show shareB (gB bs i).f1 (gB bs at_).f2 = true from h2])) (fun h2 => Ev.sub H (by simp [canP, show shareB (gB bs i).f1 (gB bs at_).f2 = false from h2]))
end Go.Proofs.Ytaofjgnhapnndaa.Q
