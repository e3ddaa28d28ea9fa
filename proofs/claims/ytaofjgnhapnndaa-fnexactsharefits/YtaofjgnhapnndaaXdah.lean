/- Texts that the row needs: words on memory and rows, the contracts of the functions it reaches, and the plain lemmas on what they compute. -/
import Derived.Below
import Derived.Deep.Draws
import Derived.Deep.AppendLies
import Derived.Maps.AppendAt
import Derived.OwnWalk
import Derived.Laws.BytesArg
import Derived.Laws.MakeOwn
import Derived.Laws.OwnMore
import Derived.Deep.OwnRows
import Derived.Tactics
import Derived.Lib.ConvBytes
import Derived.Laws.Slices
import Derived.WalkKit
import Derived.KernelRfl
import Derived.RowKit3
import Derived.Deep.LoopGhost
import Derived.Deep.QuietTactic
import Derived.BigQuiet
import Derived.WideLaws
import Derived.Deep.DeepCutAuto
import Derived.Deep.CutBlock
import Derived.Deep.RegionHeld3
import Derived.Laws.Rows
import Derived.Lib.AppendStr
import Derived.ArgAppend
import Derived.Laws.IdiomCopy
import Derived.RowKit
import Derived.OrdersHeld
import Derived.Laws.BitsLemmas
import Derived.Laws.StructEq
import Derived.Test.YtaofjgnhapnndaaProg
import Derived.WalkLawsBesides
import Derived.Shelf.Abstract
import Derived.Test.YtaofjgnhapnndaaRows
import Derived.ProofKit
import Derived.Test.YtaofjgnhapnndaaXdaa
import Derived.Test.YtaofjgnhapnndaaXdab
import Derived.Test.YtaofjgnhapnndaaXdac
import Derived.Test.YtaofjgnhapnndaaXdad
import Derived.Test.YtaofjgnhapnndaaXdae
import Derived.Test.YtaofjgnhapnndaaXdaf
import Derived.Test.YtaofjgnhapnndaaXdag
open Go.Proofs.YtaofjgnhapnndaaFd
namespace Go.Proofs.Ytaofjgnhapnndaa.Q
open Go.RowKit Go.Proofs.YtaofjgnhapnndaaW.PrintWords Go.Proofs.YtaofjgnhapnndaaW.PrintLast Go.Proofs.YtaofjgnhapnndaaW.PrintMore
set_option linter.unusedVariables false
set_option linter.unusedSimpArgs false
mutual
def impl_ShareFits.j0 : Nat → List ByteArray → Bool → List ByteArray → List (S56) → Option (Bool)
 | 0, _, _, _, _ => none
 | k + 1, x1, x18, x102000, x102001 => if x18 = true then (some false) else (impl_ShareFits.l0 k x1 x1 (x1.length : Int) 0 x102000 x102001)
def impl_ShareFits.l0 : Nat → List ByteArray → List ByteArray → Int → Int → List ByteArray → List (S56) → Option (Bool)
 | 0, _, _, _, _, _, _ => none
 | k + 1, x1, x19, x20, x21, x102000, x102001 => if x21 < x20 then (if 0 ≤ x21 then (if x21 < (x19.length : Int) then ((impl_ShareBook_at.f x102000 x102001 (rdOf ByteArray.empty x19 x21)).bind fun t104 => (if t104 < 0 then (some false) else (if x21 ≤ (x1.length : Int) then ((slices_Contains_string_string.f k (x1.take (x21 : Int).toNat) (rdOf ByteArray.empty x19 x21)).bind fun t106 => (if t106 = true then (some false) else ((impl_ShareBook_can.f k x102000 x102001 t104 (x1.take (x21 : Int).toNat)).bind fun t108 => (if t108 = true then (impl_ShareFits.l0 k x1 x19 x20 (wrap64 (x21 + 1)) x102000 x102001) else (some false))))) else (none)))) else (none)) else (none)) else (some true)
end
def impl_ShareFits.f (k : Nat) (l0_0 : List ByteArray) (l0_1 : List (S56)) (l1 : List ByteArray) : Option (Bool) := (impl_ShareBookOk.f k l0_0 l0_1).bind fun t102 => (if t102 = true then (impl_ShareFits.j0 k l1 ((l1.length : Int) != (l0_1.length : Int)) l0_0 l0_1) else (impl_ShareFits.j0 k l1 true l0_0 l0_1))
def impl_ShareFits.T7 : Bool × List (List Nat × List Nat) := (true, [([], []), ([0], [0]), ([1], [1]), ([2], [2]), ([2], [2]), ([3, 4, 2], [2, 3, 4]), ([2], [2]), ([5, 6, 2, 2], [2, 5, 6]), ([2, 7], [2, 7]), ([8, 7], [8]), ([9], [9]), ([9], [9]), ([9], [9]), ([9], [9]), ([12, 13, 9], [9, 12, 13]), ([10, 11, 14, 9, 9], [9, 10, 11, 14]), ([15, 9], [9, 15]), ([9, 16], [9, 16])])
def impl_ShareFits.B7 : List Nat := [0, 1, 3, 7, 7, 31, 7, 127, 255, 511, 1023, 1023, 1023, 1023, 13311, 32767, 65535, 131071]
theorem impl_ShareFits.tab7 : rtab .any (opsOf Try.f33 7) = impl_ShareFits.T7 := by kernel_rfl
theorem impl_ShareFits.bits7 : waitsOk impl_ShareFits.T7.2 impl_ShareFits.B7 = true := by kernel_rfl
set_option maxHeartbeats 8000000 in
set_option maxRecDepth 100000 in
theorem impl_ShareFits.calls (k : Nat) (A0_0 : Option Addr) (c0_0 : Nat) (l0_0 : List ByteArray) (A0_1 : Option Addr) (c0_1 : Nat) (l0_1 : List (S56)) (A1 : Option Addr) (c1 : Nat) (l1 : List ByteArray) (r : Bool) (w : World) (hr0_0 : Kd.C Kd.string w A0_0 l0_0.length l0_0) (hc0_0 : l0_0.length ≤ c0_0) (hr0_1 : Kd.C k56 w A0_1 l0_1.length l0_1) (hc0_1 : l0_1.length ≤ c0_1) (hr1 : Kd.C Kd.string w A1 l1.length l1) (hc1 : l1.length ≤ c1) (h : impl_ShareFits.f k l0_0 l0_1 l1 = some r) :
  Calls Try.prog 33 #[.agg #[.slice A0_0 l0_0.length c0_0, .slice A0_1 l0_1.length c0_1], .slice A1 l1.length c1] w fun e w' => e = .returned (.bool r) ∧ Below w.heap.size w w' := by
 have hu31 := Try.underlying31
 have HR0_0 := Aside0.mk hr0_0
 have HC0_0 := Aside0.mk hc0_0
 clear hr0_0 hc0_0
 have HR0_1 := Aside0.mk hr0_1
 have HC0_1 := Aside0.mk hc0_1
 clear hr0_1 hc0_1
 have HR1 := Aside0.mk hr1
 have HC1 := Aside0.mk hc1
 clear hr1 hc1
 have HB := Aside0.mk (Below.refl w.heap.size w)
 have H : ((impl_ShareBookOk.f k l0_0 l0_1).bind fun t102 => (if t102 = true then (impl_ShareFits.j0 k l1 ((l1.length : Int) != (l0_1.length : Int)) l0_0 l0_1) else (impl_ShareFits.j0 k l1 true l0_0 l0_1))) = some r := h
 clear h
 have HC3 := Aside0.mk H
 clear H
 go_enter Try.func33, Try.ntmps33
 go_upto_region 1 with (first | ((with_reducible refine gate_dst (N := 2) rfl ?_); (try (refine gate_guard (by rfl) ?_; dsimp only)); refine box_event ?hg (N := 2) ?hd (cs := #[.slice A0_0 l0_0.length c0_0, .slice A0_1 l0_1.length c0_1]) (t := 31) ?hr ?_; (case hd => rfl); (case hg => rfl); (case hr => first | (go_simp; done) | (go_simp; rfl)); intro gb101 hg w4 hbox hb; have n0_ := Aside0.mk (below_step (pY28) hb); have n1_ := Aside0.mk (hbox); have n2_ := Aside0.mk ((pY25 : w.heap.size ≤ gb101)); have n3_ := Aside0.mk ((pY25 : w.heap.size ≤ gb101)); clear HB; have HB := n0_; have BK101 := n1_; have GW101 := n2_; have GE101 := n3_; clear n0_ n1_ n2_ n3_; clear hb hbox hg))
 (try simp only [Act.put, List.setIfInBounds_toArray, List.set_cons_zero, List.set_cons_succ])
 go_cut [18] (fun v18 wc => ∃ (kq : Nat) (x18_2 : Bool), v18 = .bool x18_2 ∧ Aside0 (impl_ShareFits.j0 kq l1 x18_2 l0_0 l0_1 = some r) ∧ Aside0 (kq ≤ k) ∧ Aside0 (wc.heap[gb101]? = some (.cells #[(.slice A0_0 l0_0.length c0_0), (.slice A0_1 l0_1.length c0_1)] 31 (0, 0))) ∧ Aside0 (Below w.heap.size w wc))
 case first =>
  have H := HC3.out
  clear HC3
  replace H := Option.bind_eq_some_iff.mp H
  obtain ⟨t102, A50, H⟩ := H
  replace H : (if t102 = true then (impl_ShareFits.j0 k l1 ((l1.length : Int) != (l0_1.length : Int)) l0_0 l0_1) else (impl_ShareFits.j0 k l1 true l0_0 l0_1)) = some r := H
  have A5 := Aside0.mk A50
  clear A50
  by_cases c6 : t102 = true
  ·subst c6
   have H1 : (impl_ShareFits.j0 k l1 ((l1.length : Int) != (l0_1.length : Int)) l0_0 l0_1) = some r := by rw [if_pos rfl] at H; exact H
   clear H
   have H := H1
   clear H1
   have H' := Aside0.mk H
   clear H
   have hcz7_0 : w4.cell? ⟨gb101, 0, none⟩ = some (.slice A0_0 l0_0.length c0_0) := (blk_cell BK101.out 0).trans rfl
   have hcz7_1 : w4.cell? ⟨gb101, 1, none⟩ = some (.slice A0_1 l0_1.length c0_1) := (blk_cell BK101.out 1).trans rfl
   have hfz7_0 := blk_frozen BK101.out 0
   have hfz7_1 := blk_frozen BK101.out 1
   go_wp2_with (first | ((with_reducible refine gate_callee (f := 24) rfl ?_); refine goesL_ (some 9) rfl rfl Try.func24 (by kernel_rfl) rfl #[.agg #[.slice A0_0 l0_0.length c0_0, .slice A0_1 l0_1.length c0_1]] rfl (pY27) ?_; (with_reducible refine (impl_ShareBookOk.calls k _ _ l0_0 _ _ l0_1 true _ ?side1 ?side2 ?side3 ?side4 A5.out).mono ?_); (case side1 => exact pC (Kd.C_below HR0_0.out HB.out)); (case side2 => exact HC0_0.out); (case side3 => exact pC (Kd.C_below HR0_1.out HB.out)); (case side4 => exact HC0_1.out); rintro e w8 ⟨rfl, hb⟩; refine ⟨_, rfl, ?_⟩; have n0_ := Aside0.mk (blk_below (g := gb101) (o := .cells #[.slice A0_0 l0_0.length c0_0, .slice A0_1 l0_1.length c0_1] 31 (0, 0)) (pY29) hb); have n1_ := Aside0.mk (below_step (pY26) hb); clear BK101; clear HB; have BK101 := n0_; have HB := n1_; clear n0_ n1_; (try clear hb); (try clear hb2); (try clear hk); (try clear hi); have hcz9_0 : w8.cell? ⟨gb101, 0, none⟩ = some (.slice A0_0 l0_0.length c0_0) := (blk_cell BK101.out 0).trans rfl; have hcz9_1 : w8.cell? ⟨gb101, 1, none⟩ = some (.slice A0_1 l0_1.length c0_1) := (blk_cell BK101.out 1).trans rfl; have hfz9_0 := blk_frozen BK101.out 0; have hfz9_1 := blk_frozen BK101.out 1))
   go_meet
   case rel => exact ⟨_, (((l1.length : Int) != (l0_1.length : Int))), (pY42), H', ⟨by first | omega | exact Nat.le_refl _⟩, ⟨by (with_reducible repeat (first | refine blk_drewN ?_ _ | refine blk_drew ?_ | refine blk_alloc ?_ _)); exact BK101.out⟩, ⟨pY26⟩⟩
  ·replace c6 := Bool.eq_false_iff.mpr c6
   subst c6
   have H1 : (impl_ShareFits.j0 k l1 true l0_0 l0_1) = some r := by rw [if_neg (show ¬ (false = true) by decide)] at H; exact H
   clear H
   have H := H1
   clear H1
   have H' := Aside0.mk H
   clear H
   have hcz10_0 : w4.cell? ⟨gb101, 0, none⟩ = some (.slice A0_0 l0_0.length c0_0) := (blk_cell BK101.out 0).trans rfl
   have hcz10_1 : w4.cell? ⟨gb101, 1, none⟩ = some (.slice A0_1 l0_1.length c0_1) := (blk_cell BK101.out 1).trans rfl
   have hfz10_0 := blk_frozen BK101.out 0
   have hfz10_1 := blk_frozen BK101.out 1
   go_wp2_with (first | ((with_reducible refine gate_callee (f := 24) rfl ?_); refine goesL_ (some 9) rfl rfl Try.func24 (by kernel_rfl) rfl #[.agg #[.slice A0_0 l0_0.length c0_0, .slice A0_1 l0_1.length c0_1]] rfl (pY27) ?_; (with_reducible refine (impl_ShareBookOk.calls k _ _ l0_0 _ _ l0_1 false _ ?side1 ?side2 ?side3 ?side4 A5.out).mono ?_); (case side1 => exact pC (Kd.C_below HR0_0.out HB.out)); (case side2 => exact HC0_0.out); (case side3 => exact pC (Kd.C_below HR0_1.out HB.out)); (case side4 => exact HC0_1.out); rintro e w11 ⟨rfl, hb⟩; refine ⟨_, rfl, ?_⟩; have n0_ := Aside0.mk (blk_below (g := gb101) (o := .cells #[.slice A0_0 l0_0.length c0_0, .slice A0_1 l0_1.length c0_1] 31 (0, 0)) (pY29) hb); have n1_ := Aside0.mk (below_step (pY26) hb); clear BK101; clear HB; have BK101 := n0_; have HB := n1_; clear n0_ n1_; (try clear hb); (try clear hb2); (try clear hk); (try clear hi)))
   go_meet
   case rel => exact ⟨_, (true), (pY42), H', ⟨by first | omega | exact Nat.le_refl _⟩, ⟨by (with_reducible repeat (first | refine blk_drewN ?_ _ | refine blk_drew ?_ | refine blk_alloc ?_ _)); exact BK101.out⟩, ⟨pY26⟩⟩
 case rest =>
  clear HC3
  try clear c1
  try clear c2
  try clear p2
  try clear c3
  try clear c6
  try clear hcz10_0
  try clear hcz10_1
  try clear hcz7_0
  try clear hcz7_1
  try clear hcz9_0
  try clear hcz9_1
  try clear hfz10_0
  try clear hfz10_1
  try clear hfz7_0
  try clear hfz7_1
  try clear hfz9_0
  try clear hfz9_1
  obtain ⟨kq, x18_2, rfl, HA, HJ2, BK101, HB⟩ := hcut
  cases kq with
  | zero => exact absurd HA.out (by simp [impl_ShareFits.j0])
  | succ kj2 =>
   have H := HA.out
   clear HA
   simp only [impl_ShareFits.j0] at H
   by_cases c12 : x18_2 = true
   ·subst c12
    have H1 : (some false) = some r := by rw [if_pos rfl] at H; exact H
    clear H
    have H := H1
    clear H1
    obtain rfl := Option.some.inj H
    go_wp2
    go_ret
    exact ⟨by first | rfl | (simp [errW_none, errW_some] <;> rfl) | (simp [*, errW_none, errW_some] <;> rfl), pY26⟩
   ·replace c12 := Bool.eq_false_iff.mpr c12
    subst c12
    have H1 : (impl_ShareFits.l0 kj2 l1 l1 (l1.length : Int) 0 l0_0 l0_1) = some r := by rw [if_neg (show ¬ (false = true) by decide)] at H; exact H
    clear H
    have H := H1
    clear H1
    have H' := Aside0.mk H
    clear H
    go_wp2
    go_loopg [21] kj2 (fun kq v21 w' => ∃ (x21_2 : Int), v21 = .int .i64 x21_2 ∧ Aside0 (impl_ShareFits.l0 kq l1 l1 (l1.length : Int) x21_2 l0_0 l0_1 = some r) ∧ Aside0 (kq ≤ kj2) ∧ Aside0 (w'.heap[gb101]? = some (.cells #[(.slice A0_0 l0_0.length c0_0), (.slice A0_1 l0_1.length c0_1)] 31 (0, 0))) ∧ Aside0 (Below w.heap.size w w'))
    case atStart => exact ⟨(0), (pY42), H', ⟨Nat.le_refl _⟩, ⟨by (with_reducible repeat (first | refine blk_drewN ?_ _ | refine blk_drew ?_ | refine blk_alloc ?_ _)); exact BK101.out⟩, ⟨pY26⟩⟩
    case round =>
     clear H'
     try clear c1
     try clear c2
     try clear p2
     try clear c3
     try clear c6
     try clear c12
     try clear hcz10_0
     try clear hcz10_1
     try clear hcz7_0
     try clear hcz7_1
     try clear hcz9_0
     try clear hcz9_1
     try clear hfz10_0
     try clear hfz10_1
     try clear hfz7_0
     try clear hfz7_1
     try clear hfz9_0
     try clear hfz9_1
     try clear p2
     obtain ⟨x21_2, rfl, HA, HK2, BK101, HB⟩ := hrel
     cases gk with
     | zero => exact absurd HA.out (by simp [impl_ShareFits.l0])
     | succ k2 =>
      have H := HA.out
      clear HA
      simp only [impl_ShareFits.l0] at H
      by_cases c13 : x21_2 < (l1.length : Int)
      ·rw [if_pos c13] at H
       have c13b0 : decide (x21_2 < (l1.length : Int)) = true := decide_eq_true c13
       clear c13
       by_cases c14 : 0 ≤ x21_2
       ·rw [if_pos c14] at H
        have c14b0 : decide (0 ≤ x21_2) = true := decide_eq_true c14
        clear c14
        by_cases c15 : x21_2 < (l1.length : Int)
        ·rw [if_pos c15] at H
         have c15b0 : decide (x21_2 < (l1.length : Int)) = true := decide_eq_true c15
         clear c15
         replace H := Option.bind_eq_some_iff.mp H
         obtain ⟨t104, A160, H⟩ := H
         replace H : (if t104 < 0 then (some false) else (if x21_2 ≤ (l1.length : Int) then ((slices_Contains_string_string.f k2 (l1.take (x21_2 : Int).toNat) (rdOf ByteArray.empty l1 x21_2)).bind fun t106 => (if t106 = true then (some false) else ((impl_ShareBook_can.f k2 l0_0 l0_1 t104 (l1.take (x21_2 : Int).toNat)).bind fun t108 => (if t108 = true then (impl_ShareFits.l0 k2 l1 l1 (l1.length : Int) (wrap64 (x21_2 + 1)) l0_0 l0_1) else (some false))))) else (none))) = some r := H
         have A16 := Aside0.mk A160
         clear A160
         by_cases c17 : t104 < 0
         ·rw [if_pos c17] at H
          have c17b0 : decide (t104 < 0) = true := decide_eq_true c17
          clear c17
          obtain rfl := Option.some.inj H
          have p103 : 0 ≤ (x21_2 : Int) := of_decide_eq_true (pY41)
          have q103 : x21_2 < (l1.length : Int) := of_decide_eq_true (pY41)
          obtain ⟨ad103, e103, hx103_0⟩ := Kd.at_string HR1.out x21_2 p103 q103
          cases e103
          replace hx103_0 := (HB.out.cell (World.block_lt_of_cell? w _ hx103_0)).trans hx103_0
          replace p103 := eq_true p103
          replace q103 := eq_true q103
          have hcz18_0 : wr.cell? ⟨gb101, 0, none⟩ = some (.slice A0_0 l0_0.length c0_0) := (blk_cell BK101.out 0).trans rfl
          have hcz18_1 : wr.cell? ⟨gb101, 1, none⟩ = some (.slice A0_1 l0_1.length c0_1) := (blk_cell BK101.out 1).trans rfl
          have hfz18_0 := blk_frozen BK101.out 0
          have hfz18_1 := blk_frozen BK101.out 1
          try go_wp2_with (first | ((with_reducible refine gate_callee (f := 84) rfl ?_); refine goesL_ (some 28) rfl rfl Try.func84 (by kernel_rfl) rfl #[.agg #[.slice A0_0 l0_0.length c0_0, .slice A0_1 l0_1.length c0_1], .string (rdOf ByteArray.empty l1 x21_2)] rfl (pY27) ?_; (with_reducible refine (impl_ShareBook_at.calls _ _ l0_0 _ _ l0_1 (rdOf ByteArray.empty l1 x21_2) t104 _ ?side1 ?side2 ?side3 ?side4 A16.out).mono ?_); (case side1 => exact pC (Kd.C_below HR0_0.out HB.out)); (case side2 => exact HC0_0.out); (case side3 => exact pC (Kd.C_below HR0_1.out HB.out)); (case side4 => exact HC0_1.out); rintro e w19 ⟨rfl, hb⟩; refine ⟨_, rfl, ?_⟩; have n0_ := Aside0.mk (blk_below (g := gb101) (o := .cells #[.slice A0_0 l0_0.length c0_0, .slice A0_1 l0_1.length c0_1] 31 (0, 0)) (pY29) hb); have n1_ := Aside0.mk (below_step (pY26) hb); clear BK101; clear HB; have BK101 := n0_; have HB := n1_; clear n0_ n1_; (try clear hb); (try clear hb2); (try clear hk); (try clear hi)))
          have n0_ := Aside0.mk (blk_drew BK101.out)
          have n1_ := Aside0.mk (below_drew1 HB.out)
          clear BK101
          clear HB
          have BK101 := n0_
          have HB := n1_
          clear n0_ n1_
          refine start_ (n := 18) (S := fun w' => True) (ds := []) #[ff,ff,ff,ff,ff,ff,ff,ff,ff,ff,ff,ff,ff,ff,ff,ff,ff,ff] (by kernel_rfl) rfl rfl trivial (fun hHeld => ?_); refine with_tabW impl_ShareFits.tab7 impl_ShareFits.bits7 (fun HT_ HW_ => ?_)
          generalize w19.drew = w20 at BK101 HB hHeld ⊢
          refine pU (i := 0) (N := some 29) #[tt,ff,ff,ff,ff,ff,ff,ff,ff,ff,ff,ff,ff,ff,ff,ff,ff,ff] ?_
          refine pU (i := 1) (N := some 30) #[tt,tt,ff,ff,ff,ff,ff,ff,ff,ff,ff,ff,ff,ff,ff,ff,ff,ff] ?_
          refine pU (i := 2) (N := some 31) #[tt,tt,tt,ff,ff,ff,ff,ff,ff,ff,ff,ff,ff,ff,ff,ff,ff,ff] ?_
          refine pV (i := 3) (N := some 32) #[tt,tt,tt,tt,ff,ff,ff,ff,ff,ff,ff,ff,ff,ff,ff,ff,ff,ff] ?_
          refine pV (i := 4) (N := some 33) #[tt,tt,tt,tt,tt,ff,ff,ff,ff,ff,ff,ff,ff,ff,ff,ff,ff,ff] ?_
          refine pV (i := 5) (N := some 34) #[tt,tt,tt,tt,tt,tt,ff,ff,ff,ff,ff,ff,ff,ff,ff,ff,ff,ff] ?_
          refine pV (i := 6) (N := some 35) #[tt,tt,tt,tt,tt,tt,tt,ff,ff,ff,ff,ff,ff,ff,ff,ff,ff,ff] ?_
          refine pV (i := 7) (N := some 36) #[tt,tt,tt,tt,tt,tt,tt,tt,ff,ff,ff,ff,ff,ff,ff,ff,ff,ff] ?_
          refine pU (i := 8) (N := some 37) #[tt,tt,tt,tt,tt,tt,tt,tt,tt,ff,ff,ff,ff,ff,ff,ff,ff,ff] ?_
          refine pU (i := 9) (N := some 38) #[tt,tt,tt,tt,tt,tt,tt,tt,tt,tt,ff,ff,ff,ff,ff,ff,ff,ff] ?_
          refine pV (i := 10) (N := some 39) #[tt,tt,tt,tt,tt,tt,tt,tt,tt,tt,tt,ff,ff,ff,ff,ff,ff,ff] ?_
          refine pV (i := 11) (N := some 40) #[tt,tt,tt,tt,tt,tt,tt,tt,tt,tt,tt,tt,ff,ff,ff,ff,ff,ff] ?_
          refine pV (i := 12) (N := some 41) #[tt,tt,tt,tt,tt,tt,tt,tt,tt,tt,tt,tt,tt,ff,ff,ff,ff,ff] ?_
          refine pV (i := 13) (N := some 42) #[tt,tt,tt,tt,tt,tt,tt,tt,tt,tt,tt,tt,tt,tt,ff,ff,ff,ff] ?_
          refine pV (i := 14) (N := some 43) #[tt,tt,tt,tt,tt,tt,tt,tt,tt,tt,tt,tt,tt,tt,tt,ff,ff,ff] ?_
          refine pV (i := 15) (N := some 44) #[tt,tt,tt,tt,tt,tt,tt,tt,tt,tt,tt,tt,tt,tt,tt,tt,ff,ff] ?_
          refine pV (i := 16) (N := some 45) #[tt,tt,tt,tt,tt,tt,tt,tt,tt,tt,tt,tt,tt,tt,tt,tt,tt,ff] ?_
          refine pU (i := 17) (N := some 46) #[tt,tt,tt,tt,tt,tt,tt,tt,tt,tt,tt,tt,tt,tt,tt,tt,tt,tt] ?_
          refine done_ (done_of HT_.out (by kernel_rfl)) ?_
          try go_wp2
          go_ret
          exact ⟨by first | rfl | (simp [errW_none, errW_some] <;> rfl) | (simp [*, errW_none, errW_some] <;> rfl), pY26⟩
         ·rw [if_neg c17] at H
          have c17b0 : decide (t104 < 0) = false := decide_eq_false c17
          clear c17
          have c21b0 := eq_true (of_decide_eq_true (pY41) : 0 ≤ x21_2)
          by_cases c22 : x21_2 ≤ (l1.length : Int)
          ·rw [if_pos c22] at H
           have c22b0 := eq_true c22
           have c22b1 : decide (x21_2 ≤ (l1.length : Int)) = true := decide_eq_true c22
           clear c22
           replace H := Option.bind_eq_some_iff.mp H
           obtain ⟨t106, A230, H⟩ := H
           replace H : (if t106 = true then (some false) else ((impl_ShareBook_can.f k2 l0_0 l0_1 t104 (l1.take (x21_2 : Int).toNat)).bind fun t108 => (if t108 = true then (impl_ShareFits.l0 k2 l1 l1 (l1.length : Int) (wrap64 (x21_2 + 1)) l0_0 l0_1) else (some false)))) = some r := H
           have A23 := Aside0.mk A230
           clear A230
           by_cases c24 : t106 = true
           ·subst c24
            have H1 : (some false) = some r := by rw [if_pos rfl] at H; exact H
            clear H
            have H := H1
            clear H1
            obtain rfl := Option.some.inj H
            have p103 : 0 ≤ (x21_2 : Int) := of_decide_eq_true (pY41)
            have q103 : x21_2 < (l1.length : Int) := of_decide_eq_true (pY41)
            obtain ⟨ad103, e103, hx103_0⟩ := Kd.at_string HR1.out x21_2 p103 q103
            cases e103
            replace hx103_0 := (HB.out.cell (World.block_lt_of_cell? w _ hx103_0)).trans hx103_0
            replace p103 := eq_true p103
            replace q103 := eq_true q103
            have hcz25_0 : wr.cell? ⟨gb101, 0, none⟩ = some (.slice A0_0 l0_0.length c0_0) := (blk_cell BK101.out 0).trans rfl
            have hcz25_1 : wr.cell? ⟨gb101, 1, none⟩ = some (.slice A0_1 l0_1.length c0_1) := (blk_cell BK101.out 1).trans rfl
            have hfz25_0 := blk_frozen BK101.out 0
            have hfz25_1 := blk_frozen BK101.out 1
            try go_wp2_with (first | ((with_reducible refine gate_callee (f := 84) rfl ?_); refine goesL_ (some 28) rfl rfl Try.func84 (by kernel_rfl) rfl #[.agg #[.slice A0_0 l0_0.length c0_0, .slice A0_1 l0_1.length c0_1], .string (rdOf ByteArray.empty l1 x21_2)] rfl (pY27) ?_; (with_reducible refine (impl_ShareBook_at.calls _ _ l0_0 _ _ l0_1 (rdOf ByteArray.empty l1 x21_2) t104 _ ?side1 ?side2 ?side3 ?side4 A16.out).mono ?_); (case side1 => exact pC (Kd.C_below HR0_0.out HB.out)); (case side2 => exact HC0_0.out); (case side3 => exact pC (Kd.C_below HR0_1.out HB.out)); (case side4 => exact HC0_1.out); rintro e w26 ⟨rfl, hb⟩; refine ⟨_, rfl, ?_⟩; have n0_ := Aside0.mk (blk_below (g := gb101) (o := .cells #[.slice A0_0 l0_0.length c0_0, .slice A0_1 l0_1.length c0_1] 31 (0, 0)) (pY29) hb); have n1_ := Aside0.mk (below_step (pY26) hb); clear BK101; clear HB; have BK101 := n0_; have HB := n1_; clear n0_ n1_; (try clear hb); (try clear hb2); (try clear hk); (try clear hi)))
            have n0_ := Aside0.mk (blk_drew BK101.out)
            have n1_ := Aside0.mk (below_drew1 HB.out)
            clear BK101
            clear HB
            have BK101 := n0_
            have HB := n1_
            clear n0_ n1_
            obtain ⟨i028, hi028, _, hsz28, _⟩ := info_parts info9
            obtain ⟨hcut28, hA28, hC28⟩ := print_take_of (P := Try.prog) Value.string (⟨#[]⟩ : ByteArray) 23 9 .i64 Try.underlying23 hi028 hsz28 (some ad103) c1 l1 x21_2 (of_decide_eq_true (pY41)) (of_decide_eq_true (pY41)) HC1.out
            have HR105 := Aside0.mk (Kd.C_of_reads (h1 := fun _ => rfl) (hA28 _ (Kd.reads_of_C HR1.out)))
            have HC105 := Aside0.mk hC28
            clear hA28 hC28 hi028 hsz28
            refine start_ (n := 18) (S := fun w' => True) (ds := []) #[ff,ff,ff,ff,ff,ff,ff,ff,ff,ff,ff,ff,ff,ff,ff,ff,ff,ff] (by kernel_rfl) rfl rfl trivial (fun hHeld => ?_); refine with_tabW impl_ShareFits.tab7 impl_ShareFits.bits7 (fun HT_ HW_ => ?_)
            generalize w26.drew = w27 at BK101 HB HR105 hHeld ⊢
            refine pU (i := 0) (N := some 29) #[tt,ff,ff,ff,ff,ff,ff,ff,ff,ff,ff,ff,ff,ff,ff,ff,ff,ff] ?_
            refine pU (i := 1) (N := some 30) #[tt,tt,ff,ff,ff,ff,ff,ff,ff,ff,ff,ff,ff,ff,ff,ff,ff,ff] ?_
            refine pU (i := 2) (N := some 31) #[tt,tt,tt,ff,ff,ff,ff,ff,ff,ff,ff,ff,ff,ff,ff,ff,ff,ff] ?_
            refine pU (i := 3) (N := some 32) #[tt,tt,tt,tt,ff,ff,ff,ff,ff,ff,ff,ff,ff,ff,ff,ff,ff,ff] ?_
            refine pU (i := 4) (N := some 33) #[tt,tt,tt,tt,tt,ff,ff,ff,ff,ff,ff,ff,ff,ff,ff,ff,ff,ff] ?_
            refine pU (i := 5) (N := some 34) #[tt,tt,tt,tt,tt,tt,ff,ff,ff,ff,ff,ff,ff,ff,ff,ff,ff,ff] ?_
            refine pU (i := 6) (N := some 35) #[tt,tt,tt,tt,tt,tt,tt,ff,ff,ff,ff,ff,ff,ff,ff,ff,ff,ff] ?_
            refine one_ (i := 7) (N := some 36) #[tt,tt,tt,tt,tt,tt,tt,tt,ff,ff,ff,ff,ff,ff,ff,ff,ff,ff] rfl rfl (one_of HT_.out (by kernel_rfl)) (by decide) (fun K hK => ?_)
            refine goes_ Try.func81 (by kernel_rfl) rfl #[.slice (some ad103) (l1.take (x21_2 : Int).toNat).length c1, .string (rdOf ByteArray.empty l1 x21_2)] (by rfl) rfl rfl (by (try simp only [List.map_toArray, List.map_cons, List.map_nil]); first | done | (rw [show (l1.take (x21_2 : Int).toNat).length = x21_2.toNat from (by rw [List.length_take]; have h_ : (x21_2 : Int) ≤ (l1.length : Int) := of_decide_eq_true (pY41); omega)] <;> rfl) | rfl | (simp only [List.length_drop, List.length_take]; rfl)) ?_
            with_reducible refine (slices_Contains_string_string.calls k2 _ _ (l1.take (x21_2 : Int).toNat) (rdOf ByteArray.empty l1 x21_2) true _ ?side1 ?side2 A23.out).mono ?_
            (case side1 => exact pC (Kd.C_below HR105.out HB.out))
            (case side2 => exact HC105.out)
            rintro e w' ⟨rfl, ⟨nd, rfl⟩⟩
            refine ⟨_, rfl, ?_⟩
            refine hK.out _ _ trivial (fun hHeld => ?_)
            clear hK K
            refine norm_ (a' := ?_) ?_ ?_
            rotate_left
            ·show Act.put _ (some 36) _ = _
             simp only [pW]
             rfl
            refine pU (i := 8) (N := some 37) #[tt,tt,tt,tt,tt,tt,tt,tt,tt,ff,ff,ff,ff,ff,ff,ff,ff,ff] ?_
            refine pU (i := 9) (N := some 38) #[tt,tt,tt,tt,tt,tt,tt,tt,tt,tt,ff,ff,ff,ff,ff,ff,ff,ff] ?_
            refine pV (i := 10) (N := some 39) #[tt,tt,tt,tt,tt,tt,tt,tt,tt,tt,tt,ff,ff,ff,ff,ff,ff,ff] ?_
            refine pV (i := 11) (N := some 40) #[tt,tt,tt,tt,tt,tt,tt,tt,tt,tt,tt,tt,ff,ff,ff,ff,ff,ff] ?_
            refine pV (i := 12) (N := some 41) #[tt,tt,tt,tt,tt,tt,tt,tt,tt,tt,tt,tt,tt,ff,ff,ff,ff,ff] ?_
            refine pV (i := 13) (N := some 42) #[tt,tt,tt,tt,tt,tt,tt,tt,tt,tt,tt,tt,tt,tt,ff,ff,ff,ff] ?_
            refine pV (i := 14) (N := some 43) #[tt,tt,tt,tt,tt,tt,tt,tt,tt,tt,tt,tt,tt,tt,tt,ff,ff,ff] ?_
            refine pV (i := 15) (N := some 44) #[tt,tt,tt,tt,tt,tt,tt,tt,tt,tt,tt,tt,tt,tt,tt,tt,ff,ff] ?_
            refine pV (i := 16) (N := some 45) #[tt,tt,tt,tt,tt,tt,tt,tt,tt,tt,tt,tt,tt,tt,tt,tt,tt,ff] ?_
            refine pU (i := 17) (N := some 46) #[tt,tt,tt,tt,tt,tt,tt,tt,tt,tt,tt,tt,tt,tt,tt,tt,tt,tt] ?_
            refine done_ (done_of HT_.out (by kernel_rfl)) ?_
            try go_wp2
            go_ret
            exact ⟨by first | rfl | (simp [errW_none, errW_some] <;> rfl) | (simp [*, errW_none, errW_some] <;> rfl), pY26⟩
           ·replace c24 := Bool.eq_false_iff.mpr c24
            subst c24
            have H1 : ((impl_ShareBook_can.f k2 l0_0 l0_1 t104 (l1.take (x21_2 : Int).toNat)).bind fun t108 => (if t108 = true then (impl_ShareFits.l0 k2 l1 l1 (l1.length : Int) (wrap64 (x21_2 + 1)) l0_0 l0_1) else (some false))) = some r := by rw [if_neg (show ¬ (false = true) by decide)] at H; exact H
            clear H
            have H := H1
            clear H1
            have c29b0 := eq_true (of_decide_eq_true (pY41) : 0 ≤ x21_2)
            have c30b0 := eq_true (of_decide_eq_true (pY41) : x21_2 ≤ (l1.length : Int))
            replace H := Option.bind_eq_some_iff.mp H
            obtain ⟨t108, A310, H⟩ := H
            replace H : (if t108 = true then (impl_ShareFits.l0 k2 l1 l1 (l1.length : Int) (wrap64 (x21_2 + 1)) l0_0 l0_1) else (some false)) = some r := H
            have A31 := Aside0.mk A310
            clear A310
            by_cases c32 : t108 = true
            ·subst c32
             have H1 : (impl_ShareFits.l0 k2 l1 l1 (l1.length : Int) (wrap64 (x21_2 + 1)) l0_0 l0_1) = some r := by rw [if_pos rfl] at H; exact H
             clear H
             have H := H1
             clear H1
             have H' := Aside0.mk H
             clear H
             have p103 : 0 ≤ (x21_2 : Int) := of_decide_eq_true (pY41)
             have q103 : x21_2 < (l1.length : Int) := of_decide_eq_true (pY41)
             obtain ⟨ad103, e103, hx103_0⟩ := Kd.at_string HR1.out x21_2 p103 q103
             cases e103
             replace hx103_0 := (HB.out.cell (World.block_lt_of_cell? w _ hx103_0)).trans hx103_0
             replace p103 := eq_true p103
             replace q103 := eq_true q103
             have hcz33_0 : wr.cell? ⟨gb101, 0, none⟩ = some (.slice A0_0 l0_0.length c0_0) := (blk_cell BK101.out 0).trans rfl
             have hcz33_1 : wr.cell? ⟨gb101, 1, none⟩ = some (.slice A0_1 l0_1.length c0_1) := (blk_cell BK101.out 1).trans rfl
             have hfz33_0 := blk_frozen BK101.out 0
             have hfz33_1 := blk_frozen BK101.out 1
             try go_wp2_with (first | ((with_reducible refine gate_callee (f := 84) rfl ?_); refine goesL_ (some 28) rfl rfl Try.func84 (by kernel_rfl) rfl #[.agg #[.slice A0_0 l0_0.length c0_0, .slice A0_1 l0_1.length c0_1], .string (rdOf ByteArray.empty l1 x21_2)] rfl (pY27) ?_; (with_reducible refine (impl_ShareBook_at.calls _ _ l0_0 _ _ l0_1 (rdOf ByteArray.empty l1 x21_2) t104 _ ?side1 ?side2 ?side3 ?side4 A16.out).mono ?_); (case side1 => exact pC (Kd.C_below HR0_0.out HB.out)); (case side2 => exact HC0_0.out); (case side3 => exact pC (Kd.C_below HR0_1.out HB.out)); (case side4 => exact HC0_1.out); rintro e w34 ⟨rfl, hb⟩; refine ⟨_, rfl, ?_⟩; have n0_ := Aside0.mk (blk_below (g := gb101) (o := .cells #[.slice A0_0 l0_0.length c0_0, .slice A0_1 l0_1.length c0_1] 31 (0, 0)) (pY29) hb); have n1_ := Aside0.mk (below_step (pY26) hb); clear BK101; clear HB; have BK101 := n0_; have HB := n1_; clear n0_ n1_; (try clear hb); (try clear hb2); (try clear hk); (try clear hi)))
             have n0_ := Aside0.mk (blk_drew BK101.out)
             have n1_ := Aside0.mk (below_drew1 HB.out)
             clear BK101
             clear HB
             have BK101 := n0_
             have HB := n1_
             clear n0_ n1_
             obtain ⟨i036, hi036, _, hsz36, _⟩ := info_parts info9
             obtain ⟨hcut36, hA36, hC36⟩ := print_take_of (P := Try.prog) Value.string (⟨#[]⟩ : ByteArray) 23 9 .i64 Try.underlying23 hi036 hsz36 (some ad103) c1 l1 x21_2 (of_decide_eq_true (pY41)) (of_decide_eq_true (pY41)) HC1.out
             have HR105 := Aside0.mk (Kd.C_of_reads (h1 := fun _ => rfl) (hA36 _ (Kd.reads_of_C HR1.out)))
             have HC105 := Aside0.mk hC36
             clear hA36 hC36 hi036 hsz36
             refine start_ (n := 18) (S := fun w' => w'.cell? ⟨gb101, 0, none⟩ = some (.slice A0_0 l0_0.length c0_0) ∧ w'.cell? ⟨gb101, 1, none⟩ = some (.slice A0_1 l0_1.length c0_1)) (ds := []) #[ff,ff,ff,ff,ff,ff,ff,ff,ff,ff,ff,ff,ff,ff,ff,ff,ff,ff] (by kernel_rfl) rfl rfl ⟨(blk_cell BK101.out 0).trans rfl, (blk_cell BK101.out 1).trans rfl⟩ (fun hHeld => ?_); refine with_tabW impl_ShareFits.tab7 impl_ShareFits.bits7 (fun HT_ HW_ => ?_)
             generalize w34.drew = w35 at BK101 HB HR105 hHeld ⊢
             refine pU (i := 0) (N := some 29) #[tt,ff,ff,ff,ff,ff,ff,ff,ff,ff,ff,ff,ff,ff,ff,ff,ff,ff] ?_
             refine pU (i := 1) (N := some 30) #[tt,tt,ff,ff,ff,ff,ff,ff,ff,ff,ff,ff,ff,ff,ff,ff,ff,ff] ?_
             refine pU (i := 2) (N := some 31) #[tt,tt,tt,ff,ff,ff,ff,ff,ff,ff,ff,ff,ff,ff,ff,ff,ff,ff] ?_
             refine pU (i := 3) (N := some 32) #[tt,tt,tt,tt,ff,ff,ff,ff,ff,ff,ff,ff,ff,ff,ff,ff,ff,ff] ?_
             refine pU (i := 4) (N := some 33) #[tt,tt,tt,tt,tt,ff,ff,ff,ff,ff,ff,ff,ff,ff,ff,ff,ff,ff] ?_
             refine pU (i := 5) (N := some 34) #[tt,tt,tt,tt,tt,tt,ff,ff,ff,ff,ff,ff,ff,ff,ff,ff,ff,ff] ?_
             refine pU (i := 6) (N := some 35) #[tt,tt,tt,tt,tt,tt,tt,ff,ff,ff,ff,ff,ff,ff,ff,ff,ff,ff] ?_
             refine one_ (i := 7) (N := some 36) #[tt,tt,tt,tt,tt,tt,tt,tt,ff,ff,ff,ff,ff,ff,ff,ff,ff,ff] rfl rfl (one_of HT_.out (by kernel_rfl)) (by decide) (fun K hK => ?_)
             refine goes_ Try.func81 (by kernel_rfl) rfl #[.slice (some ad103) (l1.take (x21_2 : Int).toNat).length c1, .string (rdOf ByteArray.empty l1 x21_2)] (by rfl) rfl rfl (by (try simp only [List.map_toArray, List.map_cons, List.map_nil]); first | done | (rw [show (l1.take (x21_2 : Int).toNat).length = x21_2.toNat from (by rw [List.length_take]; have h_ : (x21_2 : Int) ≤ (l1.length : Int) := of_decide_eq_true (pY41); omega)] <;> rfl) | rfl | (simp only [List.length_drop, List.length_take]; rfl)) ?_
             with_reducible refine (slices_Contains_string_string.calls k2 _ _ (l1.take (x21_2 : Int).toNat) (rdOf ByteArray.empty l1 x21_2) false _ ?side1 ?side2 A23.out).mono ?_
             (case side1 => exact pC (Kd.C_below HR105.out HB.out))
             (case side2 => exact HC105.out)
             rintro e w' ⟨rfl, ⟨nd, rfl⟩⟩
             refine ⟨_, rfl, ?_⟩
             obtain ⟨i037, hi037, _, hsz37, _⟩ := info_parts info9
             obtain ⟨hcut37, hA37, hC37⟩ := print_take_of (P := Try.prog) Value.string (⟨#[]⟩ : ByteArray) 23 9 .i64 Try.underlying23 hi037 hsz37 (some ad103) c1 l1 x21_2 (of_decide_eq_true (pY41)) (of_decide_eq_true (pY41)) HC1.out
             have HR107 := Aside0.mk (Kd.C_of_reads (h1 := fun _ => rfl) (hA37 _ (Kd.reads_of_C HR1.out)))
             have HC107 := Aside0.mk hC37
             clear hA37 hC37 hi037 hsz37
             refine hK.out _ _ ⟨(blk_cell BK101.out 0).trans rfl, (blk_cell BK101.out 1).trans rfl⟩ (fun hHeld => ?_)
             clear hK K
             refine norm_ (a' := ?_) ?_ ?_
             rotate_left
             ·show Act.put _ (some 36) _ = _
              simp only [pW]
              rfl
             refine pU (i := 8) (N := some 37) #[tt,tt,tt,tt,tt,tt,tt,tt,tt,ff,ff,ff,ff,ff,ff,ff,ff,ff] ?_
             refine pU (i := 9) (N := some 38) #[tt,tt,tt,tt,tt,tt,tt,tt,tt,tt,ff,ff,ff,ff,ff,ff,ff,ff] ?_
             refine pU (i := 11) (N := some 40) #[tt,tt,tt,tt,tt,tt,tt,tt,tt,tt,ff,tt,ff,ff,ff,ff,ff,ff] ?_
             refine pU (i := 12) (N := some 41) #[tt,tt,tt,tt,tt,tt,tt,tt,tt,tt,ff,tt,tt,ff,ff,ff,ff,ff] ?_
             refine pU (i := 13) (N := some 42) #[tt,tt,tt,tt,tt,tt,tt,tt,tt,tt,ff,tt,tt,tt,ff,ff,ff,ff] ?_
             refine pU (i := 14) (N := some 43) #[tt,tt,tt,tt,tt,tt,tt,tt,tt,tt,ff,tt,tt,tt,tt,ff,ff,ff] ?_
             refine tK2 (i := 10) (N := some 39) #[tt,tt,tt,tt,tt,tt,tt,tt,tt,tt,tt,tt,tt,tt,tt,ff,ff,ff] ?_
             refine one_ (i := 15) (N := some 44) #[tt,tt,tt,tt,tt,tt,tt,tt,tt,tt,tt,tt,tt,tt,tt,tt,ff,ff] rfl rfl (one_of HT_.out (by kernel_rfl)) (by decide) (fun K hK => ?_)
             refine goes_ Try.func85 (by kernel_rfl) rfl #[.agg #[.slice A0_0 l0_0.length c0_0, .slice A0_1 l0_1.length c0_1], .int .i64 t104, .slice (some ad103) (l1.take (x21_2 : Int).toNat).length c1] (by rfl) rfl rfl (by (try simp only [List.map_toArray, List.map_cons, List.map_nil]); first | done | (rw [show (l1.take (x21_2 : Int).toNat).length = x21_2.toNat from (by rw [List.length_take]; have h_ : (x21_2 : Int) ≤ (l1.length : Int) := of_decide_eq_true (pY41); omega)] <;> rfl) | rfl | (simp only [List.length_drop, List.length_take]; rfl)) ?_
             with_reducible refine (impl_ShareBook_can.calls k2 _ _ l0_0 _ _ l0_1 t104 _ _ (l1.take (x21_2 : Int).toNat) true _ ?side1 ?side2 ?side3 ?side4 ?side5 ?side6 A31.out).mono ?_
             (case side1 => exact pC (Kd.C_below HR0_0.out (pY26)))
             (case side2 => exact HC0_0.out)
             (case side3 => exact pC (Kd.C_below HR0_1.out (pY26)))
             (case side4 => exact HC0_1.out)
             (case side5 => exact pC (Kd.C_below HR107.out (pY26)))
             (case side6 => exact HC107.out)
             rintro e w38 ⟨rfl, hb⟩
             refine ⟨_, rfl, ?_⟩
             have n0_ := Aside0.mk (blk_below (g := gb101) (o := .cells #[.slice A0_0 l0_0.length c0_0, .slice A0_1 l0_1.length c0_1] 31 (0, 0)) (pY29) hb)
             have n1_ := Aside0.mk (below_step (pY26) hb)
             clear BK101
             clear HB
             have BK101 := n0_
             have HB := n1_
             clear n0_ n1_
             (try clear hb)
             (try clear hb2)
             (try clear hk)
             (try clear hi)
             refine hK.out _ _ ⟨(blk_cell BK101.out 0).trans rfl, (blk_cell BK101.out 1).trans rfl⟩ (fun hHeld => ?_)
             clear hK K
             refine norm_ (a' := ?_) ?_ ?_
             rotate_left
             ·show Act.put _ (some 44) _ = _
              simp only [pW]
              rfl
             refine pU (i := 16) (N := some 45) #[tt,tt,tt,tt,tt,tt,tt,tt,tt,tt,tt,tt,tt,tt,tt,tt,tt,ff] ?_
             refine pU (i := 17) (N := some 46) #[tt,tt,tt,tt,tt,tt,tt,tt,tt,tt,tt,tt,tt,tt,tt,tt,tt,tt] ?_
             refine done_ (done_of HT_.out (by kernel_rfl)) ?_
             try go_wp2
             go_roundg k2
             case measure => have := HJ2.out; have := HK2.out; omega
             case rel => exact ⟨(wrap64 (x21_2 + 1)), (pY42), H', ⟨by have := HJ2.out; have := HK2.out; omega⟩, ⟨by (with_reducible repeat (first | refine blk_drewN ?_ _ | refine blk_drew ?_ | refine blk_alloc ?_ _)); exact BK101.out⟩, ⟨pY26⟩⟩
            ·replace c32 := Bool.eq_false_iff.mpr c32
             subst c32
             have H1 : (some false) = some r := by rw [if_neg (show ¬ (false = true) by decide)] at H; exact H
             clear H
             have H := H1
             clear H1
             obtain rfl := Option.some.inj H
             have p103 : 0 ≤ (x21_2 : Int) := of_decide_eq_true (pY41)
             have q103 : x21_2 < (l1.length : Int) := of_decide_eq_true (pY41)
             obtain ⟨ad103, e103, hx103_0⟩ := Kd.at_string HR1.out x21_2 p103 q103
             cases e103
             replace hx103_0 := (HB.out.cell (World.block_lt_of_cell? w _ hx103_0)).trans hx103_0
             replace p103 := eq_true p103
             replace q103 := eq_true q103
             have hcz39_0 : wr.cell? ⟨gb101, 0, none⟩ = some (.slice A0_0 l0_0.length c0_0) := (blk_cell BK101.out 0).trans rfl
             have hcz39_1 : wr.cell? ⟨gb101, 1, none⟩ = some (.slice A0_1 l0_1.length c0_1) := (blk_cell BK101.out 1).trans rfl
             have hfz39_0 := blk_frozen BK101.out 0
             have hfz39_1 := blk_frozen BK101.out 1
             try go_wp2_with (first | ((with_reducible refine gate_callee (f := 84) rfl ?_); refine goesL_ (some 28) rfl rfl Try.func84 (by kernel_rfl) rfl #[.agg #[.slice A0_0 l0_0.length c0_0, .slice A0_1 l0_1.length c0_1], .string (rdOf ByteArray.empty l1 x21_2)] rfl (pY27) ?_; (with_reducible refine (impl_ShareBook_at.calls _ _ l0_0 _ _ l0_1 (rdOf ByteArray.empty l1 x21_2) t104 _ ?side1 ?side2 ?side3 ?side4 A16.out).mono ?_); (case side1 => exact pC (Kd.C_below HR0_0.out HB.out)); (case side2 => exact HC0_0.out); (case side3 => exact pC (Kd.C_below HR0_1.out HB.out)); (case side4 => exact HC0_1.out); rintro e w40 ⟨rfl, hb⟩; refine ⟨_, rfl, ?_⟩; have n0_ := Aside0.mk (blk_below (g := gb101) (o := .cells #[.slice A0_0 l0_0.length c0_0, .slice A0_1 l0_1.length c0_1] 31 (0, 0)) (pY29) hb); have n1_ := Aside0.mk (below_step (pY26) hb); clear BK101; clear HB; have BK101 := n0_; have HB := n1_; clear n0_ n1_; (try clear hb); (try clear hb2); (try clear hk); (try clear hi)))
             have n0_ := Aside0.mk (blk_drew BK101.out)
             have n1_ := Aside0.mk (below_drew1 HB.out)
             clear BK101
             clear HB
             have BK101 := n0_
             have HB := n1_
             clear n0_ n1_
             obtain ⟨i042, hi042, _, hsz42, _⟩ := info_parts info9
             obtain ⟨hcut42, hA42, hC42⟩ := print_take_of (P := Try.prog) Value.string (⟨#[]⟩ : ByteArray) 23 9 .i64 Try.underlying23 hi042 hsz42 (some ad103) c1 l1 x21_2 (of_decide_eq_true (pY41)) (of_decide_eq_true (pY41)) HC1.out
             have HR105 := Aside0.mk (Kd.C_of_reads (h1 := fun _ => rfl) (hA42 _ (Kd.reads_of_C HR1.out)))
             have HC105 := Aside0.mk hC42
             clear hA42 hC42 hi042 hsz42
             refine start_ (n := 18) (S := fun w' => w'.cell? ⟨gb101, 0, none⟩ = some (.slice A0_0 l0_0.length c0_0) ∧ w'.cell? ⟨gb101, 1, none⟩ = some (.slice A0_1 l0_1.length c0_1)) (ds := []) #[ff,ff,ff,ff,ff,ff,ff,ff,ff,ff,ff,ff,ff,ff,ff,ff,ff,ff] (by kernel_rfl) rfl rfl ⟨(blk_cell BK101.out 0).trans rfl, (blk_cell BK101.out 1).trans rfl⟩ (fun hHeld => ?_); refine with_tabW impl_ShareFits.tab7 impl_ShareFits.bits7 (fun HT_ HW_ => ?_)
             generalize w40.drew = w41 at BK101 HB HR105 hHeld ⊢
             refine pU (i := 0) (N := some 29) #[tt,ff,ff,ff,ff,ff,ff,ff,ff,ff,ff,ff,ff,ff,ff,ff,ff,ff] ?_
             refine pU (i := 1) (N := some 30) #[tt,tt,ff,ff,ff,ff,ff,ff,ff,ff,ff,ff,ff,ff,ff,ff,ff,ff] ?_
             refine pU (i := 2) (N := some 31) #[tt,tt,tt,ff,ff,ff,ff,ff,ff,ff,ff,ff,ff,ff,ff,ff,ff,ff] ?_
             refine pU (i := 3) (N := some 32) #[tt,tt,tt,tt,ff,ff,ff,ff,ff,ff,ff,ff,ff,ff,ff,ff,ff,ff] ?_
             refine pU (i := 4) (N := some 33) #[tt,tt,tt,tt,tt,ff,ff,ff,ff,ff,ff,ff,ff,ff,ff,ff,ff,ff] ?_
             refine pU (i := 5) (N := some 34) #[tt,tt,tt,tt,tt,tt,ff,ff,ff,ff,ff,ff,ff,ff,ff,ff,ff,ff] ?_
             refine pU (i := 6) (N := some 35) #[tt,tt,tt,tt,tt,tt,tt,ff,ff,ff,ff,ff,ff,ff,ff,ff,ff,ff] ?_
             refine one_ (i := 7) (N := some 36) #[tt,tt,tt,tt,tt,tt,tt,tt,ff,ff,ff,ff,ff,ff,ff,ff,ff,ff] rfl rfl (one_of HT_.out (by kernel_rfl)) (by decide) (fun K hK => ?_)
             refine goes_ Try.func81 (by kernel_rfl) rfl #[.slice (some ad103) (l1.take (x21_2 : Int).toNat).length c1, .string (rdOf ByteArray.empty l1 x21_2)] (by rfl) rfl rfl (by (try simp only [List.map_toArray, List.map_cons, List.map_nil]); first | done | (rw [show (l1.take (x21_2 : Int).toNat).length = x21_2.toNat from (by rw [List.length_take]; have h_ : (x21_2 : Int) ≤ (l1.length : Int) := of_decide_eq_true (pY41); omega)] <;> rfl) | rfl | (simp only [List.length_drop, List.length_take]; rfl)) ?_
             with_reducible refine (slices_Contains_string_string.calls k2 _ _ (l1.take (x21_2 : Int).toNat) (rdOf ByteArray.empty l1 x21_2) false _ ?side1 ?side2 A23.out).mono ?_
             (case side1 => exact pC (Kd.C_below HR105.out HB.out))
             (case side2 => exact HC105.out)
             rintro e w' ⟨rfl, ⟨nd, rfl⟩⟩
             refine ⟨_, rfl, ?_⟩
             obtain ⟨i043, hi043, _, hsz43, _⟩ := info_parts info9
             obtain ⟨hcut43, hA43, hC43⟩ := print_take_of (P := Try.prog) Value.string (⟨#[]⟩ : ByteArray) 23 9 .i64 Try.underlying23 hi043 hsz43 (some ad103) c1 l1 x21_2 (of_decide_eq_true (pY41)) (of_decide_eq_true (pY41)) HC1.out
             have HR107 := Aside0.mk (Kd.C_of_reads (h1 := fun _ => rfl) (hA43 _ (Kd.reads_of_C HR1.out)))
             have HC107 := Aside0.mk hC43
             clear hA43 hC43 hi043 hsz43
             refine hK.out _ _ ⟨(blk_cell BK101.out 0).trans rfl, (blk_cell BK101.out 1).trans rfl⟩ (fun hHeld => ?_)
             clear hK K
             refine norm_ (a' := ?_) ?_ ?_
             rotate_left
             ·show Act.put _ (some 36) _ = _
              simp only [pW]
              rfl
             refine pU (i := 8) (N := some 37) #[tt,tt,tt,tt,tt,tt,tt,tt,tt,ff,ff,ff,ff,ff,ff,ff,ff,ff] ?_
             refine pU (i := 9) (N := some 38) #[tt,tt,tt,tt,tt,tt,tt,tt,tt,tt,ff,ff,ff,ff,ff,ff,ff,ff] ?_
             refine pU (i := 11) (N := some 40) #[tt,tt,tt,tt,tt,tt,tt,tt,tt,tt,ff,tt,ff,ff,ff,ff,ff,ff] ?_
             refine pU (i := 12) (N := some 41) #[tt,tt,tt,tt,tt,tt,tt,tt,tt,tt,ff,tt,tt,ff,ff,ff,ff,ff] ?_
             refine pU (i := 13) (N := some 42) #[tt,tt,tt,tt,tt,tt,tt,tt,tt,tt,ff,tt,tt,tt,ff,ff,ff,ff] ?_
             refine pU (i := 14) (N := some 43) #[tt,tt,tt,tt,tt,tt,tt,tt,tt,tt,ff,tt,tt,tt,tt,ff,ff,ff] ?_
             refine tK2 (i := 10) (N := some 39) #[tt,tt,tt,tt,tt,tt,tt,tt,tt,tt,tt,tt,tt,tt,tt,ff,ff,ff] ?_
             refine one_ (i := 15) (N := some 44) #[tt,tt,tt,tt,tt,tt,tt,tt,tt,tt,tt,tt,tt,tt,tt,tt,ff,ff] rfl rfl (one_of HT_.out (by kernel_rfl)) (by decide) (fun K hK => ?_)
             refine goes_ Try.func85 (by kernel_rfl) rfl #[.agg #[.slice A0_0 l0_0.length c0_0, .slice A0_1 l0_1.length c0_1], .int .i64 t104, .slice (some ad103) (l1.take (x21_2 : Int).toNat).length c1] (by rfl) rfl rfl (by (try simp only [List.map_toArray, List.map_cons, List.map_nil]); first | done | (rw [show (l1.take (x21_2 : Int).toNat).length = x21_2.toNat from (by rw [List.length_take]; have h_ : (x21_2 : Int) ≤ (l1.length : Int) := of_decide_eq_true (pY41); omega)] <;> rfl) | rfl | (simp only [List.length_drop, List.length_take]; rfl)) ?_
             with_reducible refine (impl_ShareBook_can.calls k2 _ _ l0_0 _ _ l0_1 t104 _ _ (l1.take (x21_2 : Int).toNat) false _ ?side1 ?side2 ?side3 ?side4 ?side5 ?side6 A31.out).mono ?_
             (case side1 => exact pC (Kd.C_below HR0_0.out (pY26)))
             (case side2 => exact HC0_0.out)
             (case side3 => exact pC (Kd.C_below HR0_1.out (pY26)))
             (case side4 => exact HC0_1.out)
             (case side5 => exact pC (Kd.C_below HR107.out (pY26)))
             (case side6 => exact HC107.out)
             rintro e w44 ⟨rfl, hb⟩
             refine ⟨_, rfl, ?_⟩
             have n0_ := Aside0.mk (blk_below (g := gb101) (o := .cells #[.slice A0_0 l0_0.length c0_0, .slice A0_1 l0_1.length c0_1] 31 (0, 0)) (pY29) hb)
             have n1_ := Aside0.mk (below_step (pY26) hb)
             clear BK101
             clear HB
             have BK101 := n0_
             have HB := n1_
             clear n0_ n1_
             (try clear hb)
             (try clear hb2)
             (try clear hk)
             (try clear hi)
             refine hK.out _ _ ⟨(blk_cell BK101.out 0).trans rfl, (blk_cell BK101.out 1).trans rfl⟩ (fun hHeld => ?_)
             clear hK K
             refine norm_ (a' := ?_) ?_ ?_
             rotate_left
             ·show Act.put _ (some 44) _ = _
              simp only [pW]
              rfl
             refine pU (i := 16) (N := some 45) #[tt,tt,tt,tt,tt,tt,tt,tt,tt,tt,tt,tt,tt,tt,tt,tt,tt,ff] ?_
             refine pU (i := 17) (N := some 46) #[tt,tt,tt,tt,tt,tt,tt,tt,tt,tt,tt,tt,tt,tt,tt,tt,tt,tt] ?_
             refine done_ (done_of HT_.out (by kernel_rfl)) ?_
             try go_wp2
             go_ret
             exact ⟨by first | rfl | (simp [errW_none, errW_some] <;> rfl) | (simp [*, errW_none, errW_some] <;> rfl), pY26⟩
          ·rw [if_neg c22] at H
           exact absurd H (by simp)
        ·rw [if_neg c15] at H
         exact absurd H (by simp)
       ·rw [if_neg c14] at H
        exact absurd H (by simp)
      ·rw [if_neg c13] at H
       have c13b0 : decide (x21_2 < (l1.length : Int)) = false := decide_eq_false c13
       clear c13
       obtain rfl := Option.some.inj H
       go_wp2
       go_ret
       exact ⟨by first | rfl | (simp [errW_none, errW_some] <;> rfl) | (simp [*, errW_none, errW_some] <;> rfl), pY26⟩
end Go.Proofs.Ytaofjgnhapnndaa.Q
namespace Go.Proofs.Ytaofjgnhapnndaa.Q
open Go.RowKit Go.Proofs.YtaofjgnhapnndaaW.PrintWords Go.Proofs.YtaofjgnhapnndaaW.PrintLast Go.Proofs.YtaofjgnhapnndaaW.PrintMore
set_option linter.unusedVariables false
set_option linter.unusedSimpArgs false
def laws_FnExactShareFits.f (k : Nat) (l0_0 : List ByteArray) (l0_1 : List (S94)) (l1 : List ByteArray) : Option (Bool) := (laws_szShareBook.f k l0_0 l0_1 1048576).bind fun t102 => (if t102 < 0 then (some true) else ((laws_szStringS.f k l1 t102).bind fun t103 => (if t103 < 0 then (some true) else ((laws_toShareBook.f k l0_0 l0_1).bind fun bt104 => ((laws_toStringS.f k l1).bind fun t110 => ((spec_ShareFits.f k bt104.1 bt104.2 t110).bind fun t113 => ((laws_toShareBook.f k l0_0 l0_1).bind fun bt114 => ((laws_toStringS.f k l1).bind fun t121 => ((impl_ShareFits.f k bt114.1 bt114.2 t121).bind fun t124 => (if (t124 != t113) = true then (some false) else ((laws_toShareBook.f k l0_0 l0_1).bind fun bt125 => ((laws_eqShareBook.f k bt114.1 bt114.2 bt125.1 bt125.2).bind fun t131 => (if t131 = true then ((laws_toStringS.f k l1).bind fun t132 => ((laws_eqStringS.f k t121 t132).bind fun t135 => (if t135 = true then (some true) else (some false)))) else (some false))))))))))))))
set_option maxHeartbeats 8000000 in
set_option maxRecDepth 100000 in
theorem laws_FnExactShareFits.calls (k : Nat) (A0_0 : Option Addr) (c0_0 : Nat) (l0_0 : List ByteArray) (A0_1 : Option Addr) (c0_1 : Nat) (l0_1 : List (S94)) (A1 : Option Addr) (c1 : Nat) (l1 : List ByteArray) (r : Bool) (w : World) (hr0_0 : Kd.C Kd.string w A0_0 l0_0.length l0_0) (hc0_0 : l0_0.length ≤ c0_0) (hr0_1 : Kd.C k94 w A0_1 l0_1.length l0_1) (hc0_1 : l0_1.length ≤ c0_1) (hr1 : Kd.C Kd.string w A1 l1.length l1) (hc1 : l1.length ≤ c1) (h : laws_FnExactShareFits.f k l0_0 l0_1 l1 = some r) :
  Calls Try.prog 7 #[.agg #[.slice A0_0 l0_0.length c0_0, .slice A0_1 l0_1.length c0_1], .slice A1 l1.length c1] w fun e w' => e = .returned (.bool r) ∧ Below w.heap.size w w' := by
 have hu26 := Try.underlying26
 have hu31 := Try.underlying31
 have HR0_0 := Aside0.mk hr0_0
 have HC0_0 := Aside0.mk hc0_0
 clear hr0_0 hc0_0
 have HR0_1 := Aside0.mk hr0_1
 have HC0_1 := Aside0.mk hc0_1
 clear hr0_1 hc0_1
 have HR1 := Aside0.mk hr1
 have HC1 := Aside0.mk hc1
 clear hr1 hc1
 have HB := Aside0.mk (Below.refl w.heap.size w)
 have H : ((laws_szShareBook.f k l0_0 l0_1 1048576).bind fun t102 => (if t102 < 0 then (some true) else ((laws_szStringS.f k l1 t102).bind fun t103 => (if t103 < 0 then (some true) else ((laws_toShareBook.f k l0_0 l0_1).bind fun bt104 => ((laws_toStringS.f k l1).bind fun t110 => ((spec_ShareFits.f k bt104.1 bt104.2 t110).bind fun t113 => ((laws_toShareBook.f k l0_0 l0_1).bind fun bt114 => ((laws_toStringS.f k l1).bind fun t121 => ((impl_ShareFits.f k bt114.1 bt114.2 t121).bind fun t124 => (if (t124 != t113) = true then (some false) else ((laws_toShareBook.f k l0_0 l0_1).bind fun bt125 => ((laws_eqShareBook.f k bt114.1 bt114.2 bt125.1 bt125.2).bind fun t131 => (if t131 = true then ((laws_toStringS.f k l1).bind fun t132 => ((laws_eqStringS.f k t121 t132).bind fun t135 => (if t135 = true then (some true) else (some false)))) else (some false))))))))))))))) = some r := h
 clear h
 replace H := Option.bind_eq_some_iff.mp H
 obtain ⟨t102, A30, H⟩ := H
 replace H : (if t102 < 0 then (some true) else ((laws_szStringS.f k l1 t102).bind fun t103 => (if t103 < 0 then (some true) else ((laws_toShareBook.f k l0_0 l0_1).bind fun bt104 => ((laws_toStringS.f k l1).bind fun t110 => ((spec_ShareFits.f k bt104.1 bt104.2 t110).bind fun t113 => ((laws_toShareBook.f k l0_0 l0_1).bind fun bt114 => ((laws_toStringS.f k l1).bind fun t121 => ((impl_ShareFits.f k bt114.1 bt114.2 t121).bind fun t124 => (if (t124 != t113) = true then (some false) else ((laws_toShareBook.f k l0_0 l0_1).bind fun bt125 => ((laws_eqShareBook.f k bt114.1 bt114.2 bt125.1 bt125.2).bind fun t131 => (if t131 = true then ((laws_toStringS.f k l1).bind fun t132 => ((laws_eqStringS.f k t121 t132).bind fun t135 => (if t135 = true then (some true) else (some false)))) else (some false)))))))))))))) = some r := H
 have A3 := Aside0.mk A30
 clear A30
 by_cases c4 : t102 < 0
 ·rw [if_pos c4] at H
  have c4b0 : decide (t102 < 0) = true := decide_eq_true c4
  clear c4
  obtain rfl := Option.some.inj H
  go_enter Try.func7, Try.ntmps7
  go_wp2_with (first | ((with_reducible refine gate_dst (N := 2) rfl ?_); refine box_event ?hg (N := 2) ?hd (cs := #[.slice A0_0 l0_0.length c0_0, .slice A0_1 l0_1.length c0_1]) (t := 26) ?hr ?_; (case hd => rfl); (case hg => rfl); (case hr => first | (go_simp; done) | (go_simp; rfl)); intro gb101 hg w5 hbox hb; have n0_ := Aside0.mk (below_step (pY28) hb); have n1_ := Aside0.mk (hbox); have n2_ := Aside0.mk ((pY25 : w.heap.size ≤ gb101)); have n3_ := Aside0.mk ((pY25 : w.heap.size ≤ gb101)); clear HB; have HB := n0_; have BK101 := n1_; have GW101 := n2_; have GE101 := n3_; clear n0_ n1_ n2_ n3_; clear hb hbox hg; have hcz6_0 : w5.cell? ⟨gb101, 0, none⟩ = some (.slice A0_0 l0_0.length c0_0) := (blk_cell BK101.out 0).trans rfl; have hcz6_1 : w5.cell? ⟨gb101, 1, none⟩ = some (.slice A0_1 l0_1.length c0_1) := (blk_cell BK101.out 1).trans rfl; have hfz6_0 := blk_frozen BK101.out 0; have hfz6_1 := blk_frozen BK101.out 1) | ((with_reducible refine gate_callee (f := 21) rfl ?_); refine goesL_ (some 12) rfl rfl Try.func21 (by kernel_rfl) rfl #[.agg #[.slice A0_0 l0_0.length c0_0, .slice A0_1 l0_1.length c0_1], .int .i64 1048576] rfl (pY27) ?_; (with_reducible refine (laws_szShareBook.calls k _ _ l0_0 _ _ l0_1 1048576 t102 _ ?side1 ?side2 ?side3 ?side4 A3.out).mono ?_); (case side1 => exact pC (Kd.C_below HR0_0.out HB.out)); (case side2 => exact HC0_0.out); (case side3 => exact pC (Kd.C_below HR0_1.out HB.out)); (case side4 => exact HC0_1.out); rintro e w7 ⟨rfl, hb⟩; refine ⟨_, rfl, ?_⟩; have n0_ := Aside0.mk (blk_below (g := gb101) (o := .cells #[.slice A0_0 l0_0.length c0_0, .slice A0_1 l0_1.length c0_1] 26 (0, 0)) (pY29) hb); have n1_ := Aside0.mk (below_step (pY26) hb); clear BK101; clear HB; have BK101 := n0_; have HB := n1_; clear n0_ n1_; (try clear hb); (try clear hb2); (try clear hk); (try clear hi)))
  go_ret
  exact ⟨by first | rfl | (simp [errW_none, errW_some] <;> rfl) | (simp [*, errW_none, errW_some] <;> rfl), pY26⟩
 ·rw [if_neg c4] at H
  have c4b0 : decide (t102 < 0) = false := decide_eq_false c4
  clear c4
  replace H := Option.bind_eq_some_iff.mp H
  obtain ⟨t103, A80, H⟩ := H
  replace H : (if t103 < 0 then (some true) else ((laws_toShareBook.f k l0_0 l0_1).bind fun bt104 => ((laws_toStringS.f k l1).bind fun t110 => ((spec_ShareFits.f k bt104.1 bt104.2 t110).bind fun t113 => ((laws_toShareBook.f k l0_0 l0_1).bind fun bt114 => ((laws_toStringS.f k l1).bind fun t121 => ((impl_ShareFits.f k bt114.1 bt114.2 t121).bind fun t124 => (if (t124 != t113) = true then (some false) else ((laws_toShareBook.f k l0_0 l0_1).bind fun bt125 => ((laws_eqShareBook.f k bt114.1 bt114.2 bt125.1 bt125.2).bind fun t131 => (if t131 = true then ((laws_toStringS.f k l1).bind fun t132 => ((laws_eqStringS.f k t121 t132).bind fun t135 => (if t135 = true then (some true) else (some false)))) else (some false)))))))))))) = some r := H
  have A8 := Aside0.mk A80
  clear A80
  by_cases c9 : t103 < 0
  ·rw [if_pos c9] at H
   have c9b0 : decide (t103 < 0) = true := decide_eq_true c9
   clear c9
   obtain rfl := Option.some.inj H
   go_enter Try.func7, Try.ntmps7
   go_wp2_with (first | ((with_reducible refine gate_dst (N := 2) rfl ?_); refine box_event ?hg (N := 2) ?hd (cs := #[.slice A0_0 l0_0.length c0_0, .slice A0_1 l0_1.length c0_1]) (t := 26) ?hr ?_; (case hd => rfl); (case hg => rfl); (case hr => first | (go_simp; done) | (go_simp; rfl)); intro gb101 hg w10 hbox hb; have n0_ := Aside0.mk (below_step (pY28) hb); have n1_ := Aside0.mk (hbox); have n2_ := Aside0.mk ((pY25 : w.heap.size ≤ gb101)); have n3_ := Aside0.mk ((pY25 : w.heap.size ≤ gb101)); clear HB; have HB := n0_; have BK101 := n1_; have GW101 := n2_; have GE101 := n3_; clear n0_ n1_ n2_ n3_; clear hb hbox hg; have hcz11_0 : w10.cell? ⟨gb101, 0, none⟩ = some (.slice A0_0 l0_0.length c0_0) := (blk_cell BK101.out 0).trans rfl; have hcz11_1 : w10.cell? ⟨gb101, 1, none⟩ = some (.slice A0_1 l0_1.length c0_1) := (blk_cell BK101.out 1).trans rfl; have hfz11_0 := blk_frozen BK101.out 0; have hfz11_1 := blk_frozen BK101.out 1) | ((with_reducible refine gate_callee (f := 21) rfl ?_); refine goesL_ (some 12) rfl rfl Try.func21 (by kernel_rfl) rfl #[.agg #[.slice A0_0 l0_0.length c0_0, .slice A0_1 l0_1.length c0_1], .int .i64 1048576] rfl (pY27) ?_; (with_reducible refine (laws_szShareBook.calls k _ _ l0_0 _ _ l0_1 1048576 t102 _ ?side1 ?side2 ?side3 ?side4 A3.out).mono ?_); (case side1 => exact pC (Kd.C_below HR0_0.out HB.out)); (case side2 => exact HC0_0.out); (case side3 => exact pC (Kd.C_below HR0_1.out HB.out)); (case side4 => exact HC0_1.out); rintro e w12 ⟨rfl, hb⟩; refine ⟨_, rfl, ?_⟩; have n0_ := Aside0.mk (blk_below (g := gb101) (o := .cells #[.slice A0_0 l0_0.length c0_0, .slice A0_1 l0_1.length c0_1] 26 (0, 0)) (pY29) hb); have n1_ := Aside0.mk (below_step (pY26) hb); clear BK101; clear HB; have BK101 := n0_; have HB := n1_; clear n0_ n1_; (try clear hb); (try clear hb2); (try clear hk); (try clear hi)) | ((with_reducible refine gate_callee (f := 30) rfl ?_); refine goesL_ (some 17) rfl rfl Try.func30 (by kernel_rfl) rfl #[.slice A1 l1.length c1, .int .i64 t102] rfl (pY27) ?_; (with_reducible refine (laws_szStringS.calls k _ _ l1 t102 t103 _ ?side1 ?side2 A8.out).mono ?_); (case side1 => exact pC (Kd.C_below HR1.out HB.out)); (case side2 => exact HC1.out); rintro e w' ⟨rfl, ⟨nd, rfl⟩⟩; refine ⟨_, rfl, ?_⟩))
   go_ret
   exact ⟨by first | rfl | (simp [errW_none, errW_some] <;> rfl) | (simp [*, errW_none, errW_some] <;> rfl), pY26⟩
  ·rw [if_neg c9] at H
   have c9b0 : decide (t103 < 0) = false := decide_eq_false c9
   clear c9
   replace H := Option.bind_eq_some_iff.mp H
   obtain ⟨⟨t104, t107⟩, A130, H⟩ := H
   replace H : ((laws_toStringS.f k l1).bind fun t110 => ((spec_ShareFits.f k t104 t107 t110).bind fun t113 => ((laws_toShareBook.f k l0_0 l0_1).bind fun bt114 => ((laws_toStringS.f k l1).bind fun t121 => ((impl_ShareFits.f k bt114.1 bt114.2 t121).bind fun t124 => (if (t124 != t113) = true then (some false) else ((laws_toShareBook.f k l0_0 l0_1).bind fun bt125 => ((laws_eqShareBook.f k bt114.1 bt114.2 bt125.1 bt125.2).bind fun t131 => (if t131 = true then ((laws_toStringS.f k l1).bind fun t132 => ((laws_eqStringS.f k t121 t132).bind fun t135 => (if t135 = true then (some true) else (some false)))) else (some false)))))))))) = some r := H
   have A13 := Aside0.mk A130
   clear A130
   replace H := Option.bind_eq_some_iff.mp H
   obtain ⟨t110, A140, H⟩ := H
   replace H : ((spec_ShareFits.f k t104 t107 t110).bind fun t113 => ((laws_toShareBook.f k l0_0 l0_1).bind fun bt114 => ((laws_toStringS.f k l1).bind fun t121 => ((impl_ShareFits.f k bt114.1 bt114.2 t121).bind fun t124 => (if (t124 != t113) = true then (some false) else ((laws_toShareBook.f k l0_0 l0_1).bind fun bt125 => ((laws_eqShareBook.f k bt114.1 bt114.2 bt125.1 bt125.2).bind fun t131 => (if t131 = true then ((laws_toStringS.f k l1).bind fun t132 => ((laws_eqStringS.f k t121 t132).bind fun t135 => (if t135 = true then (some true) else (some false)))) else (some false))))))))) = some r := H
   have A14 := Aside0.mk A140
   clear A140
   replace H := Option.bind_eq_some_iff.mp H
   obtain ⟨t113, A150, H⟩ := H
   replace H : ((laws_toShareBook.f k l0_0 l0_1).bind fun bt114 => ((laws_toStringS.f k l1).bind fun t121 => ((impl_ShareFits.f k bt114.1 bt114.2 t121).bind fun t124 => (if (t124 != t113) = true then (some false) else ((laws_toShareBook.f k l0_0 l0_1).bind fun bt125 => ((laws_eqShareBook.f k bt114.1 bt114.2 bt125.1 bt125.2).bind fun t131 => (if t131 = true then ((laws_toStringS.f k l1).bind fun t132 => ((laws_eqStringS.f k t121 t132).bind fun t135 => (if t135 = true then (some true) else (some false)))) else (some false)))))))) = some r := H
   have A15 := Aside0.mk A150
   clear A150
   replace H := Option.bind_eq_some_iff.mp H
   obtain ⟨⟨t114, t117⟩, A160, H⟩ := H
   replace H : ((laws_toStringS.f k l1).bind fun t121 => ((impl_ShareFits.f k t114 t117 t121).bind fun t124 => (if (t124 != t113) = true then (some false) else ((laws_toShareBook.f k l0_0 l0_1).bind fun bt125 => ((laws_eqShareBook.f k t114 t117 bt125.1 bt125.2).bind fun t131 => (if t131 = true then ((laws_toStringS.f k l1).bind fun t132 => ((laws_eqStringS.f k t121 t132).bind fun t135 => (if t135 = true then (some true) else (some false)))) else (some false))))))) = some r := H
   have A16 := Aside0.mk A160
   clear A160
   replace H := Option.bind_eq_some_iff.mp H
   obtain ⟨t121, A170, H⟩ := H
   replace H : ((impl_ShareFits.f k t114 t117 t121).bind fun t124 => (if (t124 != t113) = true then (some false) else ((laws_toShareBook.f k l0_0 l0_1).bind fun bt125 => ((laws_eqShareBook.f k t114 t117 bt125.1 bt125.2).bind fun t131 => (if t131 = true then ((laws_toStringS.f k l1).bind fun t132 => ((laws_eqStringS.f k t121 t132).bind fun t135 => (if t135 = true then (some true) else (some false)))) else (some false)))))) = some r := H
   have A17 := Aside0.mk A170
   clear A170
   replace H := Option.bind_eq_some_iff.mp H
   obtain ⟨t124, A180, H⟩ := H
   replace H : (if (t124 != t113) = true then (some false) else ((laws_toShareBook.f k l0_0 l0_1).bind fun bt125 => ((laws_eqShareBook.f k t114 t117 bt125.1 bt125.2).bind fun t131 => (if t131 = true then ((laws_toStringS.f k l1).bind fun t132 => ((laws_eqStringS.f k t121 t132).bind fun t135 => (if t135 = true then (some true) else (some false)))) else (some false))))) = some r := H
   have A18 := Aside0.mk A180
   clear A180
   by_cases c19 : (t124 != t113) = true
   ·rw [if_pos c19] at H
    have c19b0 : (t124 != t113) = true := c19
    (try (have c19b1 : decide (t124 = t113) = false := by simpa using c19))
    (try (have c19b2 : (t124 == t113) = false := by simpa using c19))
    (try (have c19b3 : ¬ (t124 = t113) := by simpa using c19))
    clear c19
    obtain rfl := Option.some.inj H
    go_enter Try.func7, Try.ntmps7
    go_wp2_with (first | ((with_reducible refine gate_dst (N := 2) rfl ?_); refine box_event ?hg (N := 2) ?hd (cs := #[.slice A0_0 l0_0.length c0_0, .slice A0_1 l0_1.length c0_1]) (t := 26) ?hr ?_; (case hd => rfl); (case hg => rfl); (case hr => first | (go_simp; done) | (go_simp; rfl)); intro gb101 hg w20 hbox hb; have n0_ := Aside0.mk (below_step (pY28) hb); have n1_ := Aside0.mk (hbox); have n2_ := Aside0.mk ((pY25 : w.heap.size ≤ gb101)); have n3_ := Aside0.mk ((pY25 : w.heap.size ≤ gb101)); clear HB; have HB := n0_; have BK101 := n1_; have GW101 := n2_; have GE101 := n3_; clear n0_ n1_ n2_ n3_; clear hb hbox hg; have hcz21_0 : w20.cell? ⟨gb101, 0, none⟩ = some (.slice A0_0 l0_0.length c0_0) := (blk_cell BK101.out 0).trans rfl; have hcz21_1 : w20.cell? ⟨gb101, 1, none⟩ = some (.slice A0_1 l0_1.length c0_1) := (blk_cell BK101.out 1).trans rfl; have hfz21_0 := blk_frozen BK101.out 0; have hfz21_1 := blk_frozen BK101.out 1) | ((with_reducible refine gate_callee (f := 21) rfl ?_); refine goesL_ (some 12) rfl rfl Try.func21 (by kernel_rfl) rfl #[.agg #[.slice A0_0 l0_0.length c0_0, .slice A0_1 l0_1.length c0_1], .int .i64 1048576] rfl (pY27) ?_; (with_reducible refine (laws_szShareBook.calls k _ _ l0_0 _ _ l0_1 1048576 t102 _ ?side1 ?side2 ?side3 ?side4 A3.out).mono ?_); (case side1 => exact pC (Kd.C_below HR0_0.out HB.out)); (case side2 => exact HC0_0.out); (case side3 => exact pC (Kd.C_below HR0_1.out HB.out)); (case side4 => exact HC0_1.out); rintro e w22 ⟨rfl, hb⟩; refine ⟨_, rfl, ?_⟩; have n0_ := Aside0.mk (blk_below (g := gb101) (o := .cells #[.slice A0_0 l0_0.length c0_0, .slice A0_1 l0_1.length c0_1] 26 (0, 0)) (pY29) hb); have n1_ := Aside0.mk (below_step (pY26) hb); clear BK101; clear HB; have BK101 := n0_; have HB := n1_; clear n0_ n1_; (try clear hb); (try clear hb2); (try clear hk); (try clear hi)) | ((with_reducible refine gate_callee (f := 30) rfl ?_); refine goesL_ (some 17) rfl rfl Try.func30 (by kernel_rfl) rfl #[.slice A1 l1.length c1, .int .i64 t102] rfl (pY27) ?_; (with_reducible refine (laws_szStringS.calls k _ _ l1 t102 t103 _ ?side1 ?side2 A8.out).mono ?_); (case side1 => exact pC (Kd.C_below HR1.out HB.out)); (case side2 => exact HC1.out); rintro e w' ⟨rfl, ⟨nd, rfl⟩⟩; refine ⟨_, rfl, ?_⟩; (try (rw [drewN_self w22]; generalize hq_ : World.drewN w22 _ = w22; have n0_ : Aside0 (w22.heap[gb101]? = some (.cells #[.slice A0_0 l0_0.length c0_0, .slice A0_1 l0_1.length c0_1] 26 (0, 0))) := ⟨by rw [← hq_]; exact (pY29)⟩; have n1_ : Aside0 (Below w.heap.size w w22) := ⟨by rw [← hq_]; exact (pY26)⟩; clear BK101 HB hq_; have BK101 := n0_; have HB := n1_; clear n0_ n1_)); have hcz23_0 : w22.cell? ⟨gb101, 0, none⟩ = some (.slice A0_0 l0_0.length c0_0) := (blk_cell BK101.out 0).trans rfl; have hcz23_1 : w22.cell? ⟨gb101, 1, none⟩ = some (.slice A0_1 l0_1.length c0_1) := (blk_cell BK101.out 1).trans rfl; have hfz23_0 := blk_frozen BK101.out 0; have hfz23_1 := blk_frozen BK101.out 1) | ((with_reducible refine gate_callee (f := 23) rfl ?_); refine goesL_ (some 21) rfl rfl Try.func23 (by kernel_rfl) rfl #[.agg #[.slice A0_0 l0_0.length c0_0, .slice A0_1 l0_1.length c0_1]] rfl (pY27) ?_; (with_reducible refine (laws_toShareBook.calls k _ _ l0_0 _ _ l0_1 t104 t107 _ ?side1 ?side2 ?side3 ?side4 A13.out).mono ?_); (case side1 => exact pC (Kd.C_below HR0_0.out HB.out)); (case side2 => exact HC0_0.out); (case side3 => exact pC (Kd.C_below HR0_1.out HB.out)); (case side4 => exact HC0_1.out); rintro e w24 ⟨v105, v108, rfl, ho0, ho1, hb⟩; refine ⟨_, rfl, ?_⟩; have n0_ := Aside0.mk (Kd.R_lower ho0 (below_size (pY26))); have n1_ := Aside0.mk (Kd.S_lower ho1 (below_size (pY26))); have n2_ := Aside0.mk (blk_below (g := gb101) (o := .cells #[.slice A0_0 l0_0.length c0_0, .slice A0_1 l0_1.length c0_1] 26 (0, 0)) (pY29) hb); have n3_ := Aside0.mk (below_step (pY26) hb); clear BK101; clear HB; have HO106 := n0_; have HO109 := n1_; have BK101 := n2_; have HB := n3_; clear n0_ n1_ n2_ n3_; (try clear hb); (try clear hb2); (try clear hk); (try clear hi); (try clear ho0); (try clear ho1)) | ((with_reducible refine gate_callee (f := 32) rfl ?_); refine goesL_ (some 23) rfl rfl Try.func32 (by kernel_rfl) rfl #[.slice A1 l1.length c1] rfl (pY27) ?_; (with_reducible refine (laws_toStringS.calls k _ _ l1 t110 _ ?side1 ?side2 A14.out).mono ?_); (case side1 => exact pC (Kd.C_below HR1.out HB.out)); (case side2 => exact HC1.out); rintro e w25 ⟨v111, rfl, ho0, hb⟩; refine ⟨_, rfl, ?_⟩; have n0_ := Aside0.mk (Kd.R_elder' (pY32) (Kd.R_base ho0) hb); have n1_ := Aside0.mk (Kd.S_elder' (pY33) (Kd.R_base ho0) hb); have n2_ := Aside0.mk (Kd.R_lower (Kd.R_new' ho0 (Kd.R_lt (pY32))) (below_size (pY26))); have n3_ := Aside0.mk (blk_below (g := gb101) (o := .cells #[.slice A0_0 l0_0.length c0_0, .slice A0_1 l0_1.length c0_1] 26 (0, 0)) (pY29) hb); have n4_ := Aside0.mk (below_step (pY26) hb); clear HO106; clear HO109; clear BK101; clear HB; have HO106 := n0_; have HO109 := n1_; have HO112 := n2_; have BK101 := n3_; have HB := n4_; clear n0_ n1_ n2_ n3_ n4_; (try clear hb); (try clear hb2); (try clear hk); (try clear hi); (try clear ho0); obtain ⟨Ao26, co26, eo26⟩ := Kd.R_slice HO106.out; subst eo26; obtain ⟨Ao27, co27, eo27⟩ := Kd.S_slice HO109.out; subst eo27; obtain ⟨Ao28, co28, eo28⟩ := Kd.R_slice HO112.out; subst eo28) | ((with_reducible refine gate_callee (f := 31) rfl ?_); refine goesL_ (some 24) rfl rfl Try.func31 (by kernel_rfl) rfl #[.agg #[.slice Ao26 t104.length co26, .slice Ao27 t107.length co27], .slice Ao28 t110.length co28] rfl (pY27) ?_; (with_reducible refine (spec_ShareFits.calls k _ _ t104 _ _ t107 _ _ t110 t113 _ ?side1 ?side2 ?side3 ?side4 ?side5 ?side6 A15.out).mono ?_); (case side1 => exact pC (Kd.R_reads' HO106.out).2.2); (case side2 => exact (Kd.R_reads' HO106.out).2.1); (case side3 => exact pC (Kd.S_reads' HO109.out).2.2); (case side4 => exact (Kd.S_reads' HO109.out).2.1); (case side5 => exact pC (Kd.R_reads' HO112.out).2.2); (case side6 => exact (Kd.R_reads' HO112.out).2.1); rintro e w29 ⟨rfl, hb⟩; refine ⟨_, rfl, ?_⟩; have n0_ := Aside0.mk (Kd.R_below (pY32) hb); have n1_ := Aside0.mk (Kd.S_below (pY33) hb); have n2_ := Aside0.mk (Kd.R_below (pY34) hb); have n3_ := Aside0.mk (blk_below (g := gb101) (o := .cells #[.slice A0_0 l0_0.length c0_0, .slice A0_1 l0_1.length c0_1] 26 (0, 0)) (pY29) hb); have n4_ := Aside0.mk (below_step (pY26) hb); clear HO106; clear HO109; clear HO112; clear BK101; clear HB; have HO106 := n0_; have HO109 := n1_; have HO112 := n2_; have BK101 := n3_; have HB := n4_; clear n0_ n1_ n2_ n3_ n4_; (try clear hb); (try clear hb2); (try clear hk); (try clear hi); have hcz30_0 : w29.cell? ⟨gb101, 0, none⟩ = some (.slice A0_0 l0_0.length c0_0) := (blk_cell BK101.out 0).trans rfl; have hcz30_1 : w29.cell? ⟨gb101, 1, none⟩ = some (.slice A0_1 l0_1.length c0_1) := (blk_cell BK101.out 1).trans rfl; have hfz30_0 := blk_frozen BK101.out 0; have hfz30_1 := blk_frozen BK101.out 1) | ((with_reducible refine gate_callee (f := 23) rfl ?_); refine goesL_ (some 26) rfl rfl Try.func23 (by kernel_rfl) rfl #[.agg #[.slice A0_0 l0_0.length c0_0, .slice A0_1 l0_1.length c0_1]] rfl (pY27) ?_; (with_reducible refine (laws_toShareBook.calls k _ _ l0_0 _ _ l0_1 t114 t117 _ ?side1 ?side2 ?side3 ?side4 A16.out).mono ?_); (case side1 => exact pC (Kd.C_below HR0_0.out HB.out)); (case side2 => exact HC0_0.out); (case side3 => exact pC (Kd.C_below HR0_1.out HB.out)); (case side4 => exact HC0_1.out); rintro e w31 ⟨v115, v118, rfl, ho0, ho1, hb⟩; refine ⟨_, rfl, ?_⟩; have n0_ := Aside0.mk (Kd.R_elder' (pY32) (Kd.R_base ho0) hb); have n1_ := Aside0.mk (Kd.S_mono (Kd.S_told (Kd.S_told (Kd.S_old (pY33) hb) (Kd.R_base ho0)) (Kd.S_base ho1)) (fun _ h_ => h_.1)); have n2_ := Aside0.mk (Kd.R_elder' (pY34) (Kd.R_base ho0) hb); have n3_ := Aside0.mk (Kd.R_lower (Kd.R_new' (Kd.R_new' ho0 (Kd.R_lt (pY32))) (Kd.R_lt (pY34))) (below_size (pY26))); have n4_ := Aside0.mk (Kd.S_lower (Kd.S_new' (Kd.S_new' (Kd.S_new' ho1 (Kd.R_lt (pY32))) (Kd.S_lt (pY33))) (Kd.R_lt (pY34))) (below_size (pY26))); have n5_ := Aside0.mk (blk_below (g := gb101) (o := .cells #[.slice A0_0 l0_0.length c0_0, .slice A0_1 l0_1.length c0_1] 26 (0, 0)) (pY29) hb); have n6_ := Aside0.mk (below_step (pY26) hb); clear HO106; clear HO109; clear HO112; clear BK101; clear HB; have HO106 := n0_; have HO109 := n1_; have HO112 := n2_; have HO116 := n3_; have HO119 := n4_; have BK101 := n5_; have HB := n6_; clear n0_ n1_ n2_ n3_ n4_ n5_ n6_; (try clear hb); (try clear hb2); (try clear hk); (try clear hi); (try clear ho0); (try clear ho1)) | ((with_reducible refine gate_dst (N := 7) rfl ?_); refine box_event ?hg (N := 7) ?hd (cs := #[.slice none 0 0, .slice none 0 0]) (t := 31) ?hr ?_; (case hd => rfl); (case hg => rfl); (case hr => first | (go_simp; done) | (go_simp; rfl)); intro gb120 hg w32 hbox hb; have n0_ := Aside0.mk (Kd.R_below (pY32) hb); have n1_ := Aside0.mk (Kd.S_below (pY33) hb); have n2_ := Aside0.mk (Kd.R_below (pY34) hb); have n3_ := Aside0.mk (Kd.R_below (pY35) hb); have n4_ := Aside0.mk (Kd.S_below (pY36) hb); have n5_ := Aside0.mk (blk_below (g := gb101) (o := .cells #[.slice A0_0 l0_0.length c0_0, .slice A0_1 l0_1.length c0_1] 26 (0, 0)) (pY29) hb); have n6_ := Aside0.mk (below_step (pY26) hb); have n7_ := Aside0.mk (hbox); have n8_ := Aside0.mk ((pY18 : w.heap.size ≤ gb120)); have n9_ := Aside0.mk ((pY18 : w.heap.size ≤ gb120)); have n10_ := Aside0.mk ((pY12 : gb101 ≠ gb120)); have n11_ := Aside0.mk ((pY13 : gb120 ≠ gb101)); clear HO106; clear HO109; clear HO112; clear HO116; clear HO119; clear BK101; clear HB; have HO106 := n0_; have HO109 := n1_; have HO112 := n2_; have HO116 := n3_; have HO119 := n4_; have BK101 := n5_; have HB := n6_; have BK120 := n7_; have GW120 := n8_; have GE120 := n9_; have NB101_120 := n10_; have NB120_101 := n11_; clear n0_ n1_ n2_ n3_ n4_ n5_ n6_ n7_ n8_ n9_ n10_ n11_; clear hb hbox hg; obtain ⟨Ao33, co33, eo33⟩ := Kd.R_slice HO116.out; subst eo33; have hnb34 := NB120_101.out; have hnc34 := NB101_120.out; have hcz35_0 : w32.cell? ⟨gb120, 0, none⟩ = some (.slice none 0 0) := (blk_cell BK120.out 0).trans rfl; have hcz35_1 : w32.cell? ⟨gb120, 1, none⟩ = some (.slice none 0 0) := (blk_cell BK120.out 1).trans rfl; have hfz35_0 := blk_frozen BK120.out 0; have hfz35_1 := blk_frozen BK120.out 1; obtain ⟨Ao36, co36, eo36⟩ := Kd.S_slice HO119.out; subst eo36) | ((with_reducible refine gate_callee (f := 32) rfl ?_); refine goesL_ (some 28) rfl rfl Try.func32 (by kernel_rfl) rfl #[.slice A1 l1.length c1] rfl (pY27) ?_; (with_reducible refine (laws_toStringS.calls k _ _ l1 t121 _ ?side1 ?side2 A17.out).mono ?_); (case side1 => exact Kd.C_below HR1.out (pY24)); (case side2 => exact HC1.out); rintro e w37 ⟨v122, rfl, ho0, hb⟩; refine ⟨_, rfl, ?_⟩; have n0_ := Aside0.mk (Kd.R_elder' (by (with_reducible repeat (first | apply Kd.R_alloc | apply Kd.R_drewN | apply Kd.R_drew)); exact (Kd.R_mono (Kd.R_far (p := ⟨gb120, 1, none⟩) (Kd.R_far (p := ⟨gb120, 0, none⟩) (Kd.R_types HO106.out BK120.out (by decide)) (fun _ hk => hk.2) (.slice Ao33 t114.length co33)) (fun _ hk => hk.2) (.slice Ao36 t117.length co36)) (fun _ h_ => h_.1))) (Kd.R_base ho0) hb); have n1_ := Aside0.mk (Kd.S_elder' (by (with_reducible repeat (first | apply Kd.S_alloc | apply Kd.S_drewN | apply Kd.S_drew)); exact (Kd.S_mono (Kd.S_far (p := ⟨gb120, 1, none⟩) (Kd.S_far (p := ⟨gb120, 0, none⟩) (Kd.S_types HO109.out BK120.out (by decide)) (fun _ hk => hk.2) (.slice Ao33 t114.length co33)) (fun _ hk => hk.2) (.slice Ao36 t117.length co36)) (fun _ h_ => h_.1))) (Kd.R_base ho0) hb); have n2_ := Aside0.mk (Kd.R_elder' (by (with_reducible repeat (first | apply Kd.R_alloc | apply Kd.R_drewN | apply Kd.R_drew)); exact (Kd.R_mono (Kd.R_far (p := ⟨gb120, 1, none⟩) (Kd.R_far (p := ⟨gb120, 0, none⟩) (Kd.R_types HO112.out BK120.out (by decide)) (fun _ hk => hk.2) (.slice Ao33 t114.length co33)) (fun _ hk => hk.2) (.slice Ao36 t117.length co36)) (fun _ h_ => h_.1))) (Kd.R_base ho0) hb); have n3_ := Aside0.mk (Kd.R_elder' (by (with_reducible repeat (first | apply Kd.R_alloc | apply Kd.R_drewN | apply Kd.R_drew)); exact (Kd.R_mono (Kd.R_far (p := ⟨gb120, 1, none⟩) (Kd.R_far (p := ⟨gb120, 0, none⟩) (Kd.R_types HO116.out BK120.out (by decide)) (fun _ hk => hk.2) (.slice Ao33 t114.length co33)) (fun _ hk => hk.2) (.slice Ao36 t117.length co36)) (fun _ h_ => h_.1))) (Kd.R_base ho0) hb); have n4_ := Aside0.mk (Kd.S_elder' (by (with_reducible repeat (first | apply Kd.S_alloc | apply Kd.S_drewN | apply Kd.S_drew)); exact (Kd.S_mono (Kd.S_far (p := ⟨gb120, 1, none⟩) (Kd.S_far (p := ⟨gb120, 0, none⟩) (Kd.S_types HO119.out BK120.out (by decide)) (fun _ hk => hk.2) (.slice Ao33 t114.length co33)) (fun _ hk => hk.2) (.slice Ao36 t117.length co36)) (fun _ h_ => h_.1))) (Kd.R_base ho0) hb); have n5_ := Aside0.mk (Kd.R_lower (Kd.R_new' (Kd.R_new' (Kd.R_new' ho0 (Kd.R_lt (by (with_reducible repeat (first | apply Kd.R_alloc | apply Kd.R_drewN | apply Kd.R_drew)); exact (Kd.R_mono (Kd.R_far (p := ⟨gb120, 1, none⟩) (Kd.R_far (p := ⟨gb120, 0, none⟩) (Kd.R_types HO106.out BK120.out (by decide)) (fun _ hk => hk.2) (.slice Ao33 t114.length co33)) (fun _ hk => hk.2) (.slice Ao36 t117.length co36)) (fun _ h_ => h_.1))))) (Kd.R_lt (by (with_reducible repeat (first | apply Kd.R_alloc | apply Kd.R_drewN | apply Kd.R_drew)); exact (Kd.R_mono (Kd.R_far (p := ⟨gb120, 1, none⟩) (Kd.R_far (p := ⟨gb120, 0, none⟩) (Kd.R_types HO112.out BK120.out (by decide)) (fun _ hk => hk.2) (.slice Ao33 t114.length co33)) (fun _ hk => hk.2) (.slice Ao36 t117.length co36)) (fun _ h_ => h_.1))))) (Kd.R_lt (by (with_reducible repeat (first | apply Kd.R_alloc | apply Kd.R_drewN | apply Kd.R_drew)); exact (Kd.R_mono (Kd.R_far (p := ⟨gb120, 1, none⟩) (Kd.R_far (p := ⟨gb120, 0, none⟩) (Kd.R_types HO116.out BK120.out (by decide)) (fun _ hk => hk.2) (.slice Ao33 t114.length co33)) (fun _ hk => hk.2) (.slice Ao36 t117.length co36)) (fun _ h_ => h_.1))))) (below_size (pY24))); have n6_ := Aside0.mk (blk_below (g := gb101) (o := .cells #[.slice A0_0 l0_0.length c0_0, .slice A0_1 l0_1.length c0_1] 26 (0, 0)) (pY5) hb); have n7_ := Aside0.mk (blk_below (g := gb120) (o := .cells #[.slice Ao33 t114.length co33, .slice Ao36 t117.length co36] 31 (0, 0)) (by (with_reducible repeat (first | refine blk_drewN ?_ _ | refine blk_drew ?_ | refine blk_alloc ?_ _)); refine blk_put (cs := #[.slice Ao33 t114.length co33, .slice none 0 0]) ?_ 1 _ rfl; (with_reducible repeat (first | refine blk_drewN ?_ _ | refine blk_drew ?_ | refine blk_alloc ?_ _)); refine blk_put (cs := #[.slice none 0 0, .slice none 0 0]) ?_ 0 _ rfl; (with_reducible repeat (first | refine blk_drewN ?_ _ | refine blk_drew ?_ | refine blk_alloc ?_ _)); exact BK120.out) hb); have n8_ := Aside0.mk (below_step (pY24) hb); clear HO106; clear HO109; clear HO112; clear HO116; clear HO119; clear BK101; clear BK120; clear HB; have HO106 := n0_; have HO109 := n1_; have HO112 := n2_; have HO116 := n3_; have HO119 := n4_; have HO123 := n5_; have BK101 := n6_; have BK120 := n7_; have HB := n8_; clear n0_ n1_ n2_ n3_ n4_ n5_ n6_ n7_ n8_; (try clear hb); (try clear hb2); (try clear hk); (try clear hi); (try clear ho0); have hcz38_0 : w37.cell? ⟨gb120, 0, none⟩ = some (.slice Ao33 t114.length co33) := (blk_cell BK120.out 0).trans rfl; have hcz38_1 : w37.cell? ⟨gb120, 1, none⟩ = some (.slice Ao36 t117.length co36) := (blk_cell BK120.out 1).trans rfl; have hfz38_0 := blk_frozen BK120.out 0; have hfz38_1 := blk_frozen BK120.out 1; obtain ⟨Ao39, co39, eo39⟩ := Kd.R_slice HO123.out; subst eo39) | ((with_reducible refine gate_callee (f := 33) rfl ?_); refine goesL_ (some 31) rfl rfl Try.func33 (by kernel_rfl) rfl #[.agg #[.slice Ao33 t114.length co33, .slice Ao36 t117.length co36], .slice Ao39 t121.length co39] rfl (pY27) ?_; (with_reducible refine (impl_ShareFits.calls k _ _ t114 _ _ t117 _ _ t121 t124 _ ?side1 ?side2 ?side3 ?side4 ?side5 ?side6 A18.out).mono ?_); (case side1 => exact pC (Kd.R_reads' HO116.out).2.2); (case side2 => exact (Kd.R_reads' HO116.out).2.1); (case side3 => exact pC (Kd.S_reads' HO119.out).2.2); (case side4 => exact (Kd.S_reads' HO119.out).2.1); (case side5 => exact pC (Kd.R_reads' HO123.out).2.2); (case side6 => exact (Kd.R_reads' HO123.out).2.1); rintro e w40 ⟨rfl, hb⟩; refine ⟨_, rfl, ?_⟩; have n0_ := Aside0.mk (Kd.R_below (pY32) hb); have n1_ := Aside0.mk (Kd.S_below (pY33) hb); have n2_ := Aside0.mk (Kd.R_below (pY34) hb); have n3_ := Aside0.mk (Kd.R_below (pY35) hb); have n4_ := Aside0.mk (Kd.S_below (pY36) hb); have n5_ := Aside0.mk (Kd.R_below (pY37) hb); have n6_ := Aside0.mk (blk_below (g := gb101) (o := .cells #[.slice A0_0 l0_0.length c0_0, .slice A0_1 l0_1.length c0_1] 26 (0, 0)) (pY29) hb); have n7_ := Aside0.mk (blk_below (g := gb120) (o := .cells #[.slice Ao33 t114.length co33, .slice Ao36 t117.length co36] 31 (0, 0)) (pY31) hb); have n8_ := Aside0.mk (below_step (pY24) hb); clear HO106; clear HO109; clear HO112; clear HO116; clear HO119; clear HO123; clear BK101; clear BK120; clear HB; have HO106 := n0_; have HO109 := n1_; have HO112 := n2_; have HO116 := n3_; have HO119 := n4_; have HO123 := n5_; have BK101 := n6_; have BK120 := n7_; have HB := n8_; clear n0_ n1_ n2_ n3_ n4_ n5_ n6_ n7_ n8_; (try clear hb); (try clear hb2); (try clear hk); (try clear hi)))
    go_ret
    exact ⟨by first | rfl | (simp [errW_none, errW_some] <;> rfl) | (simp [*, errW_none, errW_some] <;> rfl), pY24⟩
   ·rw [if_neg c19] at H
    have c19b0 : (t124 != t113) = false := by simpa using c19
    (try (have c19b1 : decide (t124 = t113) = true := by simpa using c19))
    (try (have c19b2 : (t124 == t113) = true := by simpa using c19))
    clear c19
    replace H := Option.bind_eq_some_iff.mp H
    obtain ⟨⟨t125, t128⟩, A410, H⟩ := H
    replace H : ((laws_eqShareBook.f k t114 t117 t125 t128).bind fun t131 => (if t131 = true then ((laws_toStringS.f k l1).bind fun t132 => ((laws_eqStringS.f k t121 t132).bind fun t135 => (if t135 = true then (some true) else (some false)))) else (some false))) = some r := H
    have A41 := Aside0.mk A410
    clear A410
    replace H := Option.bind_eq_some_iff.mp H
    obtain ⟨t131, A420, H⟩ := H
    replace H : (if t131 = true then ((laws_toStringS.f k l1).bind fun t132 => ((laws_eqStringS.f k t121 t132).bind fun t135 => (if t135 = true then (some true) else (some false)))) else (some false)) = some r := H
    have A42 := Aside0.mk A420
    clear A420
    by_cases c43 : t131 = true
    ·subst c43
     have H1 : ((laws_toStringS.f k l1).bind fun t132 => ((laws_eqStringS.f k t121 t132).bind fun t135 => (if t135 = true then (some true) else (some false)))) = some r := by rw [if_pos rfl] at H; exact H
     clear H
     have H := H1
     clear H1
     replace H := Option.bind_eq_some_iff.mp H
     obtain ⟨t132, A440, H⟩ := H
     replace H : ((laws_eqStringS.f k t121 t132).bind fun t135 => (if t135 = true then (some true) else (some false))) = some r := H
     have A44 := Aside0.mk A440
     clear A440
     replace H := Option.bind_eq_some_iff.mp H
     obtain ⟨t135, A450, H⟩ := H
     replace H : (if t135 = true then (some true) else (some false)) = some r := H
     have A45 := Aside0.mk A450
     clear A450
     by_cases c46 : t135 = true
     ·subst c46
      have H1 : (some true) = some r := by rw [if_pos rfl] at H; exact H
      clear H
      have H := H1
      clear H1
      obtain rfl := Option.some.inj H
      go_enter Try.func7, Try.ntmps7
      try go_wp2_with (first | ((with_reducible refine gate_dst (N := 2) rfl ?_); refine box_event ?hg (N := 2) ?hd (cs := #[.slice A0_0 l0_0.length c0_0, .slice A0_1 l0_1.length c0_1]) (t := 26) ?hr ?_; (case hd => rfl); (case hg => rfl); (case hr => first | (go_simp; done) | (go_simp; rfl)); intro gb101 hg w47 hbox hb; have n0_ := Aside0.mk (below_step (pY28) hb); have n1_ := Aside0.mk (hbox); have n2_ := Aside0.mk ((pY25 : w.heap.size ≤ gb101)); have n3_ := Aside0.mk ((pY25 : w.heap.size ≤ gb101)); clear HB; have HB := n0_; have BK101 := n1_; have GW101 := n2_; have GE101 := n3_; clear n0_ n1_ n2_ n3_; clear hb hbox hg; have hcz48_0 : w47.cell? ⟨gb101, 0, none⟩ = some (.slice A0_0 l0_0.length c0_0) := (blk_cell BK101.out 0).trans rfl; have hcz48_1 : w47.cell? ⟨gb101, 1, none⟩ = some (.slice A0_1 l0_1.length c0_1) := (blk_cell BK101.out 1).trans rfl; have hfz48_0 := blk_frozen BK101.out 0; have hfz48_1 := blk_frozen BK101.out 1) | ((with_reducible refine gate_callee (f := 21) rfl ?_); refine goesL_ (some 12) rfl rfl Try.func21 (by kernel_rfl) rfl #[.agg #[.slice A0_0 l0_0.length c0_0, .slice A0_1 l0_1.length c0_1], .int .i64 1048576] rfl (pY27) ?_; (with_reducible refine (laws_szShareBook.calls k _ _ l0_0 _ _ l0_1 1048576 t102 _ ?side1 ?side2 ?side3 ?side4 A3.out).mono ?_); (case side1 => exact pC (Kd.C_below HR0_0.out HB.out)); (case side2 => exact HC0_0.out); (case side3 => exact pC (Kd.C_below HR0_1.out HB.out)); (case side4 => exact HC0_1.out); rintro e w49 ⟨rfl, hb⟩; refine ⟨_, rfl, ?_⟩; have n0_ := Aside0.mk (blk_below (g := gb101) (o := .cells #[.slice A0_0 l0_0.length c0_0, .slice A0_1 l0_1.length c0_1] 26 (0, 0)) (pY29) hb); have n1_ := Aside0.mk (below_step (pY26) hb); clear BK101; clear HB; have BK101 := n0_; have HB := n1_; clear n0_ n1_; (try clear hb); (try clear hb2); (try clear hk); (try clear hi)) | ((with_reducible refine gate_callee (f := 30) rfl ?_); refine goesL_ (some 17) rfl rfl Try.func30 (by kernel_rfl) rfl #[.slice A1 l1.length c1, .int .i64 t102] rfl (pY27) ?_; (with_reducible refine (laws_szStringS.calls k _ _ l1 t102 t103 _ ?side1 ?side2 A8.out).mono ?_); (case side1 => exact pC (Kd.C_below HR1.out HB.out)); (case side2 => exact HC1.out); rintro e w' ⟨rfl, ⟨nd, rfl⟩⟩; refine ⟨_, rfl, ?_⟩; (try (rw [drewN_self w49]; generalize hq_ : World.drewN w49 _ = w49; have n0_ : Aside0 (w49.heap[gb101]? = some (.cells #[.slice A0_0 l0_0.length c0_0, .slice A0_1 l0_1.length c0_1] 26 (0, 0))) := ⟨by rw [← hq_]; exact (pY29)⟩; have n1_ : Aside0 (Below w.heap.size w w49) := ⟨by rw [← hq_]; exact (pY26)⟩; clear BK101 HB hq_; have BK101 := n0_; have HB := n1_; clear n0_ n1_)); have hcz50_0 : w49.cell? ⟨gb101, 0, none⟩ = some (.slice A0_0 l0_0.length c0_0) := (blk_cell BK101.out 0).trans rfl; have hcz50_1 : w49.cell? ⟨gb101, 1, none⟩ = some (.slice A0_1 l0_1.length c0_1) := (blk_cell BK101.out 1).trans rfl; have hfz50_0 := blk_frozen BK101.out 0; have hfz50_1 := blk_frozen BK101.out 1) | ((with_reducible refine gate_callee (f := 23) rfl ?_); refine goesL_ (some 21) rfl rfl Try.func23 (by kernel_rfl) rfl #[.agg #[.slice A0_0 l0_0.length c0_0, .slice A0_1 l0_1.length c0_1]] rfl (pY27) ?_; (with_reducible refine (laws_toShareBook.calls k _ _ l0_0 _ _ l0_1 t104 t107 _ ?side1 ?side2 ?side3 ?side4 A13.out).mono ?_); (case side1 => exact pC (Kd.C_below HR0_0.out HB.out)); (case side2 => exact HC0_0.out); (case side3 => exact pC (Kd.C_below HR0_1.out HB.out)); (case side4 => exact HC0_1.out); rintro e w51 ⟨v105, v108, rfl, ho0, ho1, hb⟩; refine ⟨_, rfl, ?_⟩; have n0_ := Aside0.mk (Kd.R_lower ho0 (below_size (pY26))); have n1_ := Aside0.mk (Kd.S_lower ho1 (below_size (pY26))); have n2_ := Aside0.mk (blk_below (g := gb101) (o := .cells #[.slice A0_0 l0_0.length c0_0, .slice A0_1 l0_1.length c0_1] 26 (0, 0)) (pY29) hb); have n3_ := Aside0.mk (below_step (pY26) hb); clear BK101; clear HB; have HO106 := n0_; have HO109 := n1_; have BK101 := n2_; have HB := n3_; clear n0_ n1_ n2_ n3_; (try clear hb); (try clear hb2); (try clear hk); (try clear hi); (try clear ho0); (try clear ho1)) | ((with_reducible refine gate_callee (f := 32) rfl ?_); refine goesL_ (some 23) rfl rfl Try.func32 (by kernel_rfl) rfl #[.slice A1 l1.length c1] rfl (pY27) ?_; (with_reducible refine (laws_toStringS.calls k _ _ l1 t110 _ ?side1 ?side2 A14.out).mono ?_); (case side1 => exact pC (Kd.C_below HR1.out HB.out)); (case side2 => exact HC1.out); rintro e w52 ⟨v111, rfl, ho0, hb⟩; refine ⟨_, rfl, ?_⟩; have n0_ := Aside0.mk (Kd.R_elder' (pY32) (Kd.R_base ho0) hb); have n1_ := Aside0.mk (Kd.S_elder' (pY33) (Kd.R_base ho0) hb); have n2_ := Aside0.mk (Kd.R_lower (Kd.R_new' ho0 (Kd.R_lt (pY32))) (below_size (pY26))); have n3_ := Aside0.mk (blk_below (g := gb101) (o := .cells #[.slice A0_0 l0_0.length c0_0, .slice A0_1 l0_1.length c0_1] 26 (0, 0)) (pY29) hb); have n4_ := Aside0.mk (below_step (pY26) hb); clear HO106; clear HO109; clear BK101; clear HB; have HO106 := n0_; have HO109 := n1_; have HO112 := n2_; have BK101 := n3_; have HB := n4_; clear n0_ n1_ n2_ n3_ n4_; (try clear hb); (try clear hb2); (try clear hk); (try clear hi); (try clear ho0); obtain ⟨Ao53, co53, eo53⟩ := Kd.R_slice HO106.out; subst eo53; obtain ⟨Ao54, co54, eo54⟩ := Kd.S_slice HO109.out; subst eo54; obtain ⟨Ao55, co55, eo55⟩ := Kd.R_slice HO112.out; subst eo55) | ((with_reducible refine gate_callee (f := 31) rfl ?_); refine goesL_ (some 24) rfl rfl Try.func31 (by kernel_rfl) rfl #[.agg #[.slice Ao53 t104.length co53, .slice Ao54 t107.length co54], .slice Ao55 t110.length co55] rfl (pY27) ?_; (with_reducible refine (spec_ShareFits.calls k _ _ t104 _ _ t107 _ _ t110 t113 _ ?side1 ?side2 ?side3 ?side4 ?side5 ?side6 A15.out).mono ?_); (case side1 => exact pC (Kd.R_reads' HO106.out).2.2); (case side2 => exact (Kd.R_reads' HO106.out).2.1); (case side3 => exact pC (Kd.S_reads' HO109.out).2.2); (case side4 => exact (Kd.S_reads' HO109.out).2.1); (case side5 => exact pC (Kd.R_reads' HO112.out).2.2); (case side6 => exact (Kd.R_reads' HO112.out).2.1); rintro e w56 ⟨rfl, hb⟩; refine ⟨_, rfl, ?_⟩; have n0_ := Aside0.mk (Kd.R_below (pY32) hb); have n1_ := Aside0.mk (Kd.S_below (pY33) hb); have n2_ := Aside0.mk (Kd.R_below (pY34) hb); have n3_ := Aside0.mk (blk_below (g := gb101) (o := .cells #[.slice A0_0 l0_0.length c0_0, .slice A0_1 l0_1.length c0_1] 26 (0, 0)) (pY29) hb); have n4_ := Aside0.mk (below_step (pY26) hb); clear HO106; clear HO109; clear HO112; clear BK101; clear HB; have HO106 := n0_; have HO109 := n1_; have HO112 := n2_; have BK101 := n3_; have HB := n4_; clear n0_ n1_ n2_ n3_ n4_; (try clear hb); (try clear hb2); (try clear hk); (try clear hi); have hcz57_0 : w56.cell? ⟨gb101, 0, none⟩ = some (.slice A0_0 l0_0.length c0_0) := (blk_cell BK101.out 0).trans rfl; have hcz57_1 : w56.cell? ⟨gb101, 1, none⟩ = some (.slice A0_1 l0_1.length c0_1) := (blk_cell BK101.out 1).trans rfl; have hfz57_0 := blk_frozen BK101.out 0; have hfz57_1 := blk_frozen BK101.out 1) | ((with_reducible refine gate_callee (f := 23) rfl ?_); refine goesL_ (some 26) rfl rfl Try.func23 (by kernel_rfl) rfl #[.agg #[.slice A0_0 l0_0.length c0_0, .slice A0_1 l0_1.length c0_1]] rfl (pY27) ?_; (with_reducible refine (laws_toShareBook.calls k _ _ l0_0 _ _ l0_1 t114 t117 _ ?side1 ?side2 ?side3 ?side4 A16.out).mono ?_); (case side1 => exact pC (Kd.C_below HR0_0.out HB.out)); (case side2 => exact HC0_0.out); (case side3 => exact pC (Kd.C_below HR0_1.out HB.out)); (case side4 => exact HC0_1.out); rintro e w58 ⟨v115, v118, rfl, ho0, ho1, hb⟩; refine ⟨_, rfl, ?_⟩; have n0_ := Aside0.mk (Kd.R_elder' (pY32) (Kd.R_base ho0) hb); have n1_ := Aside0.mk (Kd.S_mono (Kd.S_told (Kd.S_told (Kd.S_old (pY33) hb) (Kd.R_base ho0)) (Kd.S_base ho1)) (fun _ h_ => h_.1)); have n2_ := Aside0.mk (Kd.R_elder' (pY34) (Kd.R_base ho0) hb); have n3_ := Aside0.mk (Kd.R_lower (Kd.R_new' (Kd.R_new' ho0 (Kd.R_lt (pY32))) (Kd.R_lt (pY34))) (below_size (pY26))); have n4_ := Aside0.mk (Kd.S_lower (Kd.S_new' (Kd.S_new' (Kd.S_new' ho1 (Kd.R_lt (pY32))) (Kd.S_lt (pY33))) (Kd.R_lt (pY34))) (below_size (pY26))); have n5_ := Aside0.mk (blk_below (g := gb101) (o := .cells #[.slice A0_0 l0_0.length c0_0, .slice A0_1 l0_1.length c0_1] 26 (0, 0)) (pY29) hb); have n6_ := Aside0.mk (below_step (pY26) hb); clear HO106; clear HO109; clear HO112; clear BK101; clear HB; have HO106 := n0_; have HO109 := n1_; have HO112 := n2_; have HO116 := n3_; have HO119 := n4_; have BK101 := n5_; have HB := n6_; clear n0_ n1_ n2_ n3_ n4_ n5_ n6_; (try clear hb); (try clear hb2); (try clear hk); (try clear hi); (try clear ho0); (try clear ho1)) | ((with_reducible refine gate_dst (N := 7) rfl ?_); refine box_event ?hg (N := 7) ?hd (cs := #[.slice none 0 0, .slice none 0 0]) (t := 31) ?hr ?_; (case hd => rfl); (case hg => rfl); (case hr => first | (go_simp; done) | (go_simp; rfl)); intro gb120 hg w59 hbox hb; have n0_ := Aside0.mk (Kd.R_below (pY32) hb); have n1_ := Aside0.mk (Kd.S_below (pY33) hb); have n2_ := Aside0.mk (Kd.R_below (pY34) hb); have n3_ := Aside0.mk (Kd.R_below (pY35) hb); have n4_ := Aside0.mk (Kd.S_below (pY36) hb); have n5_ := Aside0.mk (blk_below (g := gb101) (o := .cells #[.slice A0_0 l0_0.length c0_0, .slice A0_1 l0_1.length c0_1] 26 (0, 0)) (pY29) hb); have n6_ := Aside0.mk (below_step (pY26) hb); have n7_ := Aside0.mk (hbox); have n8_ := Aside0.mk ((pY18 : w.heap.size ≤ gb120)); have n9_ := Aside0.mk ((pY18 : w.heap.size ≤ gb120)); have n10_ := Aside0.mk ((pY12 : gb101 ≠ gb120)); have n11_ := Aside0.mk ((pY13 : gb120 ≠ gb101)); clear HO106; clear HO109; clear HO112; clear HO116; clear HO119; clear BK101; clear HB; have HO106 := n0_; have HO109 := n1_; have HO112 := n2_; have HO116 := n3_; have HO119 := n4_; have BK101 := n5_; have HB := n6_; have BK120 := n7_; have GW120 := n8_; have GE120 := n9_; have NB101_120 := n10_; have NB120_101 := n11_; clear n0_ n1_ n2_ n3_ n4_ n5_ n6_ n7_ n8_ n9_ n10_ n11_; clear hb hbox hg; obtain ⟨Ao60, co60, eo60⟩ := Kd.R_slice HO116.out; subst eo60; have hnb61 := NB120_101.out; have hnc61 := NB101_120.out; have hcz62_0 : w59.cell? ⟨gb120, 0, none⟩ = some (.slice none 0 0) := (blk_cell BK120.out 0).trans rfl; have hcz62_1 : w59.cell? ⟨gb120, 1, none⟩ = some (.slice none 0 0) := (blk_cell BK120.out 1).trans rfl; have hfz62_0 := blk_frozen BK120.out 0; have hfz62_1 := blk_frozen BK120.out 1; obtain ⟨Ao63, co63, eo63⟩ := Kd.S_slice HO119.out; subst eo63) | ((with_reducible refine gate_callee (f := 32) rfl ?_); refine goesL_ (some 28) rfl rfl Try.func32 (by kernel_rfl) rfl #[.slice A1 l1.length c1] rfl (pY27) ?_; (with_reducible refine (laws_toStringS.calls k _ _ l1 t121 _ ?side1 ?side2 A17.out).mono ?_); (case side1 => exact Kd.C_below HR1.out (pY24)); (case side2 => exact HC1.out); rintro e w64 ⟨v122, rfl, ho0, hb⟩; refine ⟨_, rfl, ?_⟩; have n0_ := Aside0.mk (Kd.R_elder' (by (with_reducible repeat (first | apply Kd.R_alloc | apply Kd.R_drewN | apply Kd.R_drew)); exact (Kd.R_mono (Kd.R_far (p := ⟨gb120, 1, none⟩) (Kd.R_far (p := ⟨gb120, 0, none⟩) (Kd.R_types HO106.out BK120.out (by decide)) (fun _ hk => hk.2) (.slice Ao60 t114.length co60)) (fun _ hk => hk.2) (.slice Ao63 t117.length co63)) (fun _ h_ => h_.1))) (Kd.R_base ho0) hb); have n1_ := Aside0.mk (Kd.S_elder' (by (with_reducible repeat (first | apply Kd.S_alloc | apply Kd.S_drewN | apply Kd.S_drew)); exact (Kd.S_mono (Kd.S_far (p := ⟨gb120, 1, none⟩) (Kd.S_far (p := ⟨gb120, 0, none⟩) (Kd.S_types HO109.out BK120.out (by decide)) (fun _ hk => hk.2) (.slice Ao60 t114.length co60)) (fun _ hk => hk.2) (.slice Ao63 t117.length co63)) (fun _ h_ => h_.1))) (Kd.R_base ho0) hb); have n2_ := Aside0.mk (Kd.R_elder' (by (with_reducible repeat (first | apply Kd.R_alloc | apply Kd.R_drewN | apply Kd.R_drew)); exact (Kd.R_mono (Kd.R_far (p := ⟨gb120, 1, none⟩) (Kd.R_far (p := ⟨gb120, 0, none⟩) (Kd.R_types HO112.out BK120.out (by decide)) (fun _ hk => hk.2) (.slice Ao60 t114.length co60)) (fun _ hk => hk.2) (.slice Ao63 t117.length co63)) (fun _ h_ => h_.1))) (Kd.R_base ho0) hb); have n3_ := Aside0.mk (Kd.R_elder' (by (with_reducible repeat (first | apply Kd.R_alloc | apply Kd.R_drewN | apply Kd.R_drew)); exact (Kd.R_mono (Kd.R_far (p := ⟨gb120, 1, none⟩) (Kd.R_far (p := ⟨gb120, 0, none⟩) (Kd.R_types HO116.out BK120.out (by decide)) (fun _ hk => hk.2) (.slice Ao60 t114.length co60)) (fun _ hk => hk.2) (.slice Ao63 t117.length co63)) (fun _ h_ => h_.1))) (Kd.R_base ho0) hb); have n4_ := Aside0.mk (Kd.S_elder' (by (with_reducible repeat (first | apply Kd.S_alloc | apply Kd.S_drewN | apply Kd.S_drew)); exact (Kd.S_mono (Kd.S_far (p := ⟨gb120, 1, none⟩) (Kd.S_far (p := ⟨gb120, 0, none⟩) (Kd.S_types HO119.out BK120.out (by decide)) (fun _ hk => hk.2) (.slice Ao60 t114.length co60)) (fun _ hk => hk.2) (.slice Ao63 t117.length co63)) (fun _ h_ => h_.1))) (Kd.R_base ho0) hb); have n5_ := Aside0.mk (Kd.R_lower (Kd.R_new' (Kd.R_new' (Kd.R_new' ho0 (Kd.R_lt (by (with_reducible repeat (first | apply Kd.R_alloc | apply Kd.R_drewN | apply Kd.R_drew)); exact (Kd.R_mono (Kd.R_far (p := ⟨gb120, 1, none⟩) (Kd.R_far (p := ⟨gb120, 0, none⟩) (Kd.R_types HO106.out BK120.out (by decide)) (fun _ hk => hk.2) (.slice Ao60 t114.length co60)) (fun _ hk => hk.2) (.slice Ao63 t117.length co63)) (fun _ h_ => h_.1))))) (Kd.R_lt (by (with_reducible repeat (first | apply Kd.R_alloc | apply Kd.R_drewN | apply Kd.R_drew)); exact (Kd.R_mono (Kd.R_far (p := ⟨gb120, 1, none⟩) (Kd.R_far (p := ⟨gb120, 0, none⟩) (Kd.R_types HO112.out BK120.out (by decide)) (fun _ hk => hk.2) (.slice Ao60 t114.length co60)) (fun _ hk => hk.2) (.slice Ao63 t117.length co63)) (fun _ h_ => h_.1))))) (Kd.R_lt (by (with_reducible repeat (first | apply Kd.R_alloc | apply Kd.R_drewN | apply Kd.R_drew)); exact (Kd.R_mono (Kd.R_far (p := ⟨gb120, 1, none⟩) (Kd.R_far (p := ⟨gb120, 0, none⟩) (Kd.R_types HO116.out BK120.out (by decide)) (fun _ hk => hk.2) (.slice Ao60 t114.length co60)) (fun _ hk => hk.2) (.slice Ao63 t117.length co63)) (fun _ h_ => h_.1))))) (below_size (pY24))); have n6_ := Aside0.mk (blk_below (g := gb101) (o := .cells #[.slice A0_0 l0_0.length c0_0, .slice A0_1 l0_1.length c0_1] 26 (0, 0)) (pY5) hb); have n7_ := Aside0.mk (blk_below (g := gb120) (o := .cells #[.slice Ao60 t114.length co60, .slice Ao63 t117.length co63] 31 (0, 0)) (by (with_reducible repeat (first | refine blk_drewN ?_ _ | refine blk_drew ?_ | refine blk_alloc ?_ _)); refine blk_put (cs := #[.slice Ao60 t114.length co60, .slice none 0 0]) ?_ 1 _ rfl; (with_reducible repeat (first | refine blk_drewN ?_ _ | refine blk_drew ?_ | refine blk_alloc ?_ _)); refine blk_put (cs := #[.slice none 0 0, .slice none 0 0]) ?_ 0 _ rfl; (with_reducible repeat (first | refine blk_drewN ?_ _ | refine blk_drew ?_ | refine blk_alloc ?_ _)); exact BK120.out) hb); have n8_ := Aside0.mk (below_step (pY24) hb); clear HO106; clear HO109; clear HO112; clear HO116; clear HO119; clear BK101; clear BK120; clear HB; have HO106 := n0_; have HO109 := n1_; have HO112 := n2_; have HO116 := n3_; have HO119 := n4_; have HO123 := n5_; have BK101 := n6_; have BK120 := n7_; have HB := n8_; clear n0_ n1_ n2_ n3_ n4_ n5_ n6_ n7_ n8_; (try clear hb); (try clear hb2); (try clear hk); (try clear hi); (try clear ho0); have hcz65_0 : w64.cell? ⟨gb120, 0, none⟩ = some (.slice Ao60 t114.length co60) := (blk_cell BK120.out 0).trans rfl; have hcz65_1 : w64.cell? ⟨gb120, 1, none⟩ = some (.slice Ao63 t117.length co63) := (blk_cell BK120.out 1).trans rfl; have hfz65_0 := blk_frozen BK120.out 0; have hfz65_1 := blk_frozen BK120.out 1; obtain ⟨Ao66, co66, eo66⟩ := Kd.R_slice HO123.out; subst eo66) | ((with_reducible refine gate_callee (f := 33) rfl ?_); refine goesL_ (some 31) rfl rfl Try.func33 (by kernel_rfl) rfl #[.agg #[.slice Ao60 t114.length co60, .slice Ao63 t117.length co63], .slice Ao66 t121.length co66] rfl (pY27) ?_; (with_reducible refine (impl_ShareFits.calls k _ _ t114 _ _ t117 _ _ t121 t124 _ ?side1 ?side2 ?side3 ?side4 ?side5 ?side6 A18.out).mono ?_); (case side1 => exact pC (Kd.R_reads' HO116.out).2.2); (case side2 => exact (Kd.R_reads' HO116.out).2.1); (case side3 => exact pC (Kd.S_reads' HO119.out).2.2); (case side4 => exact (Kd.S_reads' HO119.out).2.1); (case side5 => exact pC (Kd.R_reads' HO123.out).2.2); (case side6 => exact (Kd.R_reads' HO123.out).2.1); rintro e w67 ⟨rfl, hb⟩; refine ⟨_, rfl, ?_⟩; have n0_ := Aside0.mk (Kd.R_below (pY32) hb); have n1_ := Aside0.mk (Kd.S_below (pY33) hb); have n2_ := Aside0.mk (Kd.R_below (pY34) hb); have n3_ := Aside0.mk (Kd.R_below (pY35) hb); have n4_ := Aside0.mk (Kd.S_below (pY36) hb); have n5_ := Aside0.mk (Kd.R_below (pY37) hb); have n6_ := Aside0.mk (blk_below (g := gb101) (o := .cells #[.slice A0_0 l0_0.length c0_0, .slice A0_1 l0_1.length c0_1] 26 (0, 0)) (pY29) hb); have n7_ := Aside0.mk (blk_below (g := gb120) (o := .cells #[.slice Ao60 t114.length co60, .slice Ao63 t117.length co63] 31 (0, 0)) (pY31) hb); have n8_ := Aside0.mk (below_step (pY24) hb); clear HO106; clear HO109; clear HO112; clear HO116; clear HO119; clear HO123; clear BK101; clear BK120; clear HB; have HO106 := n0_; have HO109 := n1_; have HO112 := n2_; have HO116 := n3_; have HO119 := n4_; have HO123 := n5_; have BK101 := n6_; have BK120 := n7_; have HB := n8_; clear n0_ n1_ n2_ n3_ n4_ n5_ n6_ n7_ n8_; (try clear hb); (try clear hb2); (try clear hk); (try clear hi)))
      have n0_ := Aside0.mk (Kd.R_drew HO106.out)
      have n1_ := Aside0.mk (Kd.S_drew HO109.out)
      have n2_ := Aside0.mk (Kd.R_drew HO112.out)
      have n3_ := Aside0.mk (Kd.R_drew HO116.out)
      have n4_ := Aside0.mk (Kd.S_drew HO119.out)
      have n5_ := Aside0.mk (Kd.R_drew HO123.out)
      have n6_ := Aside0.mk (blk_drew BK101.out)
      have n7_ := Aside0.mk (blk_drew BK120.out)
      have n8_ := Aside0.mk (below_drew1 HB.out)
      clear HO106
      clear HO109
      clear HO112
      clear HO116
      clear HO119
      clear HO123
      clear BK101
      clear BK120
      clear HB
      have HO106 := n0_
      have HO109 := n1_
      have HO112 := n2_
      have HO116 := n3_
      have HO119 := n4_
      have HO123 := n5_
      have BK101 := n6_
      have BK120 := n7_
      have HB := n8_
      clear n0_ n1_ n2_ n3_ n4_ n5_ n6_ n7_ n8_
      refine start_ (n := 5) (S := fun w' => w'.cell? ⟨gb120, 0, none⟩ = some (.slice Ao60 t114.length co60) ∧ w'.cell? ⟨gb120, 1, none⟩ = some (.slice Ao63 t117.length co63) ∧ w'.cell? ⟨gb101, 0, none⟩ = some (.slice A0_0 l0_0.length c0_0) ∧ w'.cell? ⟨gb101, 1, none⟩ = some (.slice A0_1 l0_1.length c0_1)) (ds := []) #[false, false, false, false, false] (by kernel_rfl) rfl rfl ⟨(blk_cell BK120.out 0).trans rfl, (blk_cell BK120.out 1).trans rfl, (blk_cell BK101.out 0).trans rfl, (blk_cell BK101.out 1).trans rfl⟩ (fun hHeld => ?_)
      generalize w67.drew = w68 at HO106 HO109 HO112 HO116 HO119 HO123 BK101 BK120 HB hHeld ⊢
      refine tK4_ (i := 0) (N := some 35) #[true, false, false, false, false] ?_
      refine tK4_ (i := 1) (N := some 36) #[true, true, false, false, false] ?_
      refine one_ (i := 2) (N := some 37) #[true, true, true, false, false] rfl rfl (by kernel_rfl) (by decide) (fun K hK => ?_)
      refine goes_ Try.func23 (by kernel_rfl) rfl #[.agg #[.slice A0_0 l0_0.length c0_0, .slice A0_1 l0_1.length c0_1]] (by rfl) rfl rfl (pY27) ?_
      with_reducible refine (laws_toShareBook.calls k _ _ l0_0 _ _ l0_1 t125 t128 _ ?side1 ?side2 ?side3 ?side4 A41.out).mono ?_
      (case side1 => exact pC (Kd.C_below HR0_0.out HB.out))
      (case side2 => exact HC0_0.out)
      (case side3 => exact pC (Kd.C_below HR0_1.out HB.out))
      (case side4 => exact HC0_1.out)
      rintro e w69 ⟨v126, v129, rfl, ho0, ho1, hb⟩
      refine ⟨_, rfl, ?_⟩
      have n0_ := Aside0.mk (Kd.R_elder' (pY32) (Kd.R_base ho0) hb)
      have n1_ := Aside0.mk (Kd.S_mono (Kd.S_told (Kd.S_told (Kd.S_old (pY33) hb) (Kd.R_base ho0)) (Kd.S_base ho1)) (fun _ h_ => h_.1))
      have n2_ := Aside0.mk (Kd.R_elder' (pY34) (Kd.R_base ho0) hb)
      have n3_ := Aside0.mk (Kd.R_elder' (pY35) (Kd.R_base ho0) hb)
      have n4_ := Aside0.mk (Kd.S_mono (Kd.S_told (Kd.S_told (Kd.S_old (pY36) hb) (Kd.R_base ho0)) (Kd.S_base ho1)) (fun _ h_ => h_.1))
      have n5_ := Aside0.mk (Kd.R_elder' (pY37) (Kd.R_base ho0) hb)
      have n6_ := Aside0.mk (Kd.R_lower (Kd.R_new' (Kd.R_new' (Kd.R_new' (Kd.R_new' ho0 (Kd.R_lt (pY32))) (Kd.R_lt (pY34))) (Kd.R_lt (pY35))) (Kd.R_lt (pY37))) (below_size (pY24)))
      have n7_ := Aside0.mk (Kd.S_lower (Kd.S_new' (Kd.S_new' (Kd.S_new' (Kd.S_new' (Kd.S_new' (Kd.S_new' ho1 (Kd.R_lt (pY32))) (Kd.S_lt (pY33))) (Kd.R_lt (pY34))) (Kd.R_lt (pY35))) (Kd.S_lt (pY36))) (Kd.R_lt (pY37))) (below_size (pY24)))
      have n8_ := Aside0.mk (blk_below (g := gb101) (o := .cells #[.slice A0_0 l0_0.length c0_0, .slice A0_1 l0_1.length c0_1] 26 (0, 0)) (pY29) hb)
      have n9_ := Aside0.mk (blk_below (g := gb120) (o := .cells #[.slice Ao60 t114.length co60, .slice Ao63 t117.length co63] 31 (0, 0)) (pY31) hb)
      have n10_ := Aside0.mk (below_step (pY24) hb)
      clear HO106
      clear HO109
      clear HO112
      clear HO116
      clear HO119
      clear HO123
      clear BK101
      clear BK120
      clear HB
      have HO106 := n0_
      have HO109 := n1_
      have HO112 := n2_
      have HO116 := n3_
      have HO119 := n4_
      have HO123 := n5_
      have HO127 := n6_
      have HO130 := n7_
      have BK101 := n8_
      have BK120 := n9_
      have HB := n10_
      clear n0_ n1_ n2_ n3_ n4_ n5_ n6_ n7_ n8_ n9_ n10_
      (try clear hb)
      (try clear hb2)
      (try clear hk)
      (try clear hi)
      (try clear ho0)
      (try clear ho1)
      obtain ⟨Ao70, co70, eo70⟩ := Kd.R_slice HO127.out
      (first | subst eo70 | (injection eo70 with f1_ f2_ f3_; have f4_ := f1_.symm; have f5_ := f3_.symm; clear f1_ f2_ f3_; subst f4_; subst f5_))
      obtain ⟨Ao71, co71, eo71⟩ := Kd.S_slice HO130.out
      (first | subst eo71 | (injection eo71 with f1_ f2_ f3_; have f4_ := f1_.symm; have f5_ := f3_.symm; clear f1_ f2_ f3_; subst f4_; subst f5_))
      refine hK.out _ _ ⟨(blk_cell BK120.out 0).trans rfl, (blk_cell BK120.out 1).trans rfl, (blk_cell BK101.out 0).trans rfl, (blk_cell BK101.out 1).trans rfl⟩ (fun hHeld => ?_)
      clear hK K
      refine norm_ (a' := ?_) ?_ ?_
      rotate_left
      ·show Act.put _ (some 37) _ = _
       simp only [pW]
       rfl
      refine one_ (i := 3) (N := some 38) #[true, true, true, true, false] rfl rfl (by kernel_rfl) (by decide) (fun K hK => ?_)
      refine goes_ Try.func25 (by kernel_rfl) rfl #[.agg #[.slice Ao60 t114.length co60, .slice Ao63 t117.length co63], .agg #[.slice Ao70 t125.length co70, .slice Ao71 t128.length co71]] (by rfl) rfl rfl (pY27) ?_
      with_reducible refine (laws_eqShareBook.calls k _ _ t114 _ _ t117 _ _ t125 _ _ t128 true _ ?side1 ?side2 ?side3 ?side4 ?side5 ?side6 ?side7 ?side8 A42.out).mono ?_
      (case side1 => exact pC (Kd.R_reads' HO116.out).2.2)
      (case side2 => exact (Kd.R_reads' HO116.out).2.1)
      (case side3 => exact pC (Kd.S_reads' HO119.out).2.2)
      (case side4 => exact (Kd.S_reads' HO119.out).2.1)
      (case side5 => exact pC (Kd.R_reads' HO127.out).2.2)
      (case side6 => exact (Kd.R_reads' HO127.out).2.1)
      (case side7 => exact pC (Kd.S_reads' HO130.out).2.2)
      (case side8 => exact (Kd.S_reads' HO130.out).2.1)
      rintro e w72 ⟨rfl, hb⟩
      refine ⟨_, rfl, ?_⟩
      have n0_ := Aside0.mk (Kd.R_below (pY32) hb)
      have n1_ := Aside0.mk (Kd.S_below (pY33) hb)
      have n2_ := Aside0.mk (Kd.R_below (pY34) hb)
      have n3_ := Aside0.mk (Kd.R_below (pY35) hb)
      have n4_ := Aside0.mk (Kd.S_below (pY36) hb)
      have n5_ := Aside0.mk (Kd.R_below (pY37) hb)
      have n6_ := Aside0.mk (Kd.R_below (by (with_reducible repeat (first | apply Kd.R_alloc | apply Kd.R_drewN | apply Kd.R_drew)); exact HO127.out) hb)
      have n7_ := Aside0.mk (Kd.S_below (by (with_reducible repeat (first | apply Kd.S_alloc | apply Kd.S_drewN | apply Kd.S_drew)); exact HO130.out) hb)
      have n8_ := Aside0.mk (blk_below (g := gb101) (o := .cells #[.slice A0_0 l0_0.length c0_0, .slice A0_1 l0_1.length c0_1] 26 (0, 0)) (pY29) hb)
      have n9_ := Aside0.mk (blk_below (g := gb120) (o := .cells #[.slice Ao60 t114.length co60, .slice Ao63 t117.length co63] 31 (0, 0)) (pY31) hb)
      have n10_ := Aside0.mk (below_step (pY24) hb)
      clear HO106
      clear HO109
      clear HO112
      clear HO116
      clear HO119
      clear HO123
      clear HO127
      clear HO130
      clear BK101
      clear BK120
      clear HB
      have HO106 := n0_
      have HO109 := n1_
      have HO112 := n2_
      have HO116 := n3_
      have HO119 := n4_
      have HO123 := n5_
      have HO127 := n6_
      have HO130 := n7_
      have BK101 := n8_
      have BK120 := n9_
      have HB := n10_
      clear n0_ n1_ n2_ n3_ n4_ n5_ n6_ n7_ n8_ n9_ n10_
      (try clear hb)
      (try clear hb2)
      (try clear hk)
      (try clear hi)
      refine hK.out _ _ ⟨(blk_cell BK120.out 0).trans rfl, (blk_cell BK120.out 1).trans rfl, (blk_cell BK101.out 0).trans rfl, (blk_cell BK101.out 1).trans rfl⟩ (fun hHeld => ?_)
      clear hK K
      refine norm_ (a' := ?_) ?_ ?_
      rotate_left
      ·show Act.put _ (some 38) _ = _
       simp only [pW]
       rfl
      refine pU0 (i := 4) (N := some 39) #[true, true, true, true, true] ?_
      refine done_ (by kernel_rfl) ?_
      try go_wp2_with (first | ((with_reducible refine gate_callee (f := 32) rfl ?_); refine goesL_ (some 42) rfl rfl Try.func32 (by kernel_rfl) rfl #[.slice A1 l1.length c1] rfl (pY27) ?_; (with_reducible refine (laws_toStringS.calls k _ _ l1 t132 _ ?side1 ?side2 A44.out).mono ?_); (case side1 => exact pC (Kd.C_below HR1.out HB.out)); (case side2 => exact HC1.out); rintro e w73 ⟨v133, rfl, ho0, hb⟩; refine ⟨_, rfl, ?_⟩; have n0_ := Aside0.mk (Kd.R_elder' (pY32) (Kd.R_base ho0) hb); have n1_ := Aside0.mk (Kd.S_elder' (pY33) (Kd.R_base ho0) hb); have n2_ := Aside0.mk (Kd.R_elder' (pY34) (Kd.R_base ho0) hb); have n3_ := Aside0.mk (Kd.R_elder' (pY35) (Kd.R_base ho0) hb); have n4_ := Aside0.mk (Kd.S_elder' (pY36) (Kd.R_base ho0) hb); have n5_ := Aside0.mk (Kd.R_elder' (pY37) (Kd.R_base ho0) hb); have n6_ := Aside0.mk (Kd.R_elder' (by (with_reducible repeat (first | apply Kd.R_alloc | apply Kd.R_drewN | apply Kd.R_drew)); exact HO127.out) (Kd.R_base ho0) hb); have n7_ := Aside0.mk (Kd.S_elder' (by (with_reducible repeat (first | apply Kd.S_alloc | apply Kd.S_drewN | apply Kd.S_drew)); exact HO130.out) (Kd.R_base ho0) hb); have n8_ := Aside0.mk (Kd.R_lower (Kd.R_new' (Kd.R_new' (Kd.R_new' (Kd.R_new' (Kd.R_new' ho0 (Kd.R_lt (pY32))) (Kd.R_lt (pY34))) (Kd.R_lt (pY35))) (Kd.R_lt (pY37))) (Kd.R_lt (by (with_reducible repeat (first | apply Kd.R_alloc | apply Kd.R_drewN | apply Kd.R_drew)); exact HO127.out))) (below_size (pY24))); have n9_ := Aside0.mk (blk_below (g := gb101) (o := .cells #[.slice A0_0 l0_0.length c0_0, .slice A0_1 l0_1.length c0_1] 26 (0, 0)) (pY29) hb); have n10_ := Aside0.mk (blk_below (g := gb120) (o := .cells #[.slice Ao60 t114.length co60, .slice Ao63 t117.length co63] 31 (0, 0)) (pY31) hb); have n11_ := Aside0.mk (below_step (pY24) hb); clear HO106; clear HO109; clear HO112; clear HO116; clear HO119; clear HO123; clear HO127; clear HO130; clear BK101; clear BK120; clear HB; have HO106 := n0_; have HO109 := n1_; have HO112 := n2_; have HO116 := n3_; have HO119 := n4_; have HO123 := n5_; have HO127 := n6_; have HO130 := n7_; have HO134 := n8_; have BK101 := n9_; have BK120 := n10_; have HB := n11_; clear n0_ n1_ n2_ n3_ n4_ n5_ n6_ n7_ n8_ n9_ n10_ n11_; (try clear hb); (try clear hb2); (try clear hk); (try clear hi); (try clear ho0); obtain ⟨Ao74, co74, eo74⟩ := Kd.R_slice HO134.out; subst eo74) | ((with_reducible refine gate_callee (f := 34) rfl ?_); refine goesL_ (some 43) rfl rfl Try.func34 (by kernel_rfl) rfl #[.slice Ao66 t121.length co66, .slice Ao74 t132.length co74] rfl (pY27) ?_; (with_reducible refine (laws_eqStringS.calls k _ _ t121 _ _ t132 true _ ?side1 ?side2 ?side3 ?side4 A45.out).mono ?_); (case side1 => exact pC (Kd.R_reads' HO123.out).2.2); (case side2 => exact (Kd.R_reads' HO123.out).2.1); (case side3 => exact pC (Kd.R_reads' HO134.out).2.2); (case side4 => exact (Kd.R_reads' HO134.out).2.1); rintro e w' ⟨rfl, ⟨nd, rfl⟩⟩; refine ⟨_, rfl, ?_⟩))
      go_ret
      exact ⟨by first | rfl | (simp [errW_none, errW_some] <;> rfl) | (simp [*, errW_none, errW_some] <;> rfl), pY24⟩
     ·replace c46 := Bool.eq_false_iff.mpr c46
      subst c46
      have H1 : (some false) = some r := by rw [if_neg (show ¬ (false = true) by decide)] at H; exact H
      clear H
      have H := H1
      clear H1
      obtain rfl := Option.some.inj H
      go_enter Try.func7, Try.ntmps7
      try go_wp2_with (first | ((with_reducible refine gate_dst (N := 2) rfl ?_); refine box_event ?hg (N := 2) ?hd (cs := #[.slice A0_0 l0_0.length c0_0, .slice A0_1 l0_1.length c0_1]) (t := 26) ?hr ?_; (case hd => rfl); (case hg => rfl); (case hr => first | (go_simp; done) | (go_simp; rfl)); intro gb101 hg w75 hbox hb; have n0_ := Aside0.mk (below_step (pY28) hb); have n1_ := Aside0.mk (hbox); have n2_ := Aside0.mk ((pY25 : w.heap.size ≤ gb101)); have n3_ := Aside0.mk ((pY25 : w.heap.size ≤ gb101)); clear HB; have HB := n0_; have BK101 := n1_; have GW101 := n2_; have GE101 := n3_; clear n0_ n1_ n2_ n3_; clear hb hbox hg; have hcz76_0 : w75.cell? ⟨gb101, 0, none⟩ = some (.slice A0_0 l0_0.length c0_0) := (blk_cell BK101.out 0).trans rfl; have hcz76_1 : w75.cell? ⟨gb101, 1, none⟩ = some (.slice A0_1 l0_1.length c0_1) := (blk_cell BK101.out 1).trans rfl; have hfz76_0 := blk_frozen BK101.out 0; have hfz76_1 := blk_frozen BK101.out 1) | ((with_reducible refine gate_callee (f := 21) rfl ?_); refine goesL_ (some 12) rfl rfl Try.func21 (by kernel_rfl) rfl #[.agg #[.slice A0_0 l0_0.length c0_0, .slice A0_1 l0_1.length c0_1], .int .i64 1048576] rfl (pY27) ?_; (with_reducible refine (laws_szShareBook.calls k _ _ l0_0 _ _ l0_1 1048576 t102 _ ?side1 ?side2 ?side3 ?side4 A3.out).mono ?_); (case side1 => exact pC (Kd.C_below HR0_0.out HB.out)); (case side2 => exact HC0_0.out); (case side3 => exact pC (Kd.C_below HR0_1.out HB.out)); (case side4 => exact HC0_1.out); rintro e w77 ⟨rfl, hb⟩; refine ⟨_, rfl, ?_⟩; have n0_ := Aside0.mk (blk_below (g := gb101) (o := .cells #[.slice A0_0 l0_0.length c0_0, .slice A0_1 l0_1.length c0_1] 26 (0, 0)) (pY29) hb); have n1_ := Aside0.mk (below_step (pY26) hb); clear BK101; clear HB; have BK101 := n0_; have HB := n1_; clear n0_ n1_; (try clear hb); (try clear hb2); (try clear hk); (try clear hi)) | ((with_reducible refine gate_callee (f := 30) rfl ?_); refine goesL_ (some 17) rfl rfl Try.func30 (by kernel_rfl) rfl #[.slice A1 l1.length c1, .int .i64 t102] rfl (pY27) ?_; (with_reducible refine (laws_szStringS.calls k _ _ l1 t102 t103 _ ?side1 ?side2 A8.out).mono ?_); (case side1 => exact pC (Kd.C_below HR1.out HB.out)); (case side2 => exact HC1.out); rintro e w' ⟨rfl, ⟨nd, rfl⟩⟩; refine ⟨_, rfl, ?_⟩; (try (rw [drewN_self w77]; generalize hq_ : World.drewN w77 _ = w77; have n0_ : Aside0 (w77.heap[gb101]? = some (.cells #[.slice A0_0 l0_0.length c0_0, .slice A0_1 l0_1.length c0_1] 26 (0, 0))) := ⟨by rw [← hq_]; exact (pY29)⟩; have n1_ : Aside0 (Below w.heap.size w w77) := ⟨by rw [← hq_]; exact (pY26)⟩; clear BK101 HB hq_; have BK101 := n0_; have HB := n1_; clear n0_ n1_)); have hcz78_0 : w77.cell? ⟨gb101, 0, none⟩ = some (.slice A0_0 l0_0.length c0_0) := (blk_cell BK101.out 0).trans rfl; have hcz78_1 : w77.cell? ⟨gb101, 1, none⟩ = some (.slice A0_1 l0_1.length c0_1) := (blk_cell BK101.out 1).trans rfl; have hfz78_0 := blk_frozen BK101.out 0; have hfz78_1 := blk_frozen BK101.out 1) | ((with_reducible refine gate_callee (f := 23) rfl ?_); refine goesL_ (some 21) rfl rfl Try.func23 (by kernel_rfl) rfl #[.agg #[.slice A0_0 l0_0.length c0_0, .slice A0_1 l0_1.length c0_1]] rfl (pY27) ?_; (with_reducible refine (laws_toShareBook.calls k _ _ l0_0 _ _ l0_1 t104 t107 _ ?side1 ?side2 ?side3 ?side4 A13.out).mono ?_); (case side1 => exact pC (Kd.C_below HR0_0.out HB.out)); (case side2 => exact HC0_0.out); (case side3 => exact pC (Kd.C_below HR0_1.out HB.out)); (case side4 => exact HC0_1.out); rintro e w79 ⟨v105, v108, rfl, ho0, ho1, hb⟩; refine ⟨_, rfl, ?_⟩; have n0_ := Aside0.mk (Kd.R_lower ho0 (below_size (pY26))); have n1_ := Aside0.mk (Kd.S_lower ho1 (below_size (pY26))); have n2_ := Aside0.mk (blk_below (g := gb101) (o := .cells #[.slice A0_0 l0_0.length c0_0, .slice A0_1 l0_1.length c0_1] 26 (0, 0)) (pY29) hb); have n3_ := Aside0.mk (below_step (pY26) hb); clear BK101; clear HB; have HO106 := n0_; have HO109 := n1_; have BK101 := n2_; have HB := n3_; clear n0_ n1_ n2_ n3_; (try clear hb); (try clear hb2); (try clear hk); (try clear hi); (try clear ho0); (try clear ho1)) | ((with_reducible refine gate_callee (f := 32) rfl ?_); refine goesL_ (some 23) rfl rfl Try.func32 (by kernel_rfl) rfl #[.slice A1 l1.length c1] rfl (pY27) ?_; (with_reducible refine (laws_toStringS.calls k _ _ l1 t110 _ ?side1 ?side2 A14.out).mono ?_); (case side1 => exact pC (Kd.C_below HR1.out HB.out)); (case side2 => exact HC1.out); rintro e w80 ⟨v111, rfl, ho0, hb⟩; refine ⟨_, rfl, ?_⟩; have n0_ := Aside0.mk (Kd.R_elder' (pY32) (Kd.R_base ho0) hb); have n1_ := Aside0.mk (Kd.S_elder' (pY33) (Kd.R_base ho0) hb); have n2_ := Aside0.mk (Kd.R_lower (Kd.R_new' ho0 (Kd.R_lt (pY32))) (below_size (pY26))); have n3_ := Aside0.mk (blk_below (g := gb101) (o := .cells #[.slice A0_0 l0_0.length c0_0, .slice A0_1 l0_1.length c0_1] 26 (0, 0)) (pY29) hb); have n4_ := Aside0.mk (below_step (pY26) hb); clear HO106; clear HO109; clear BK101; clear HB; have HO106 := n0_; have HO109 := n1_; have HO112 := n2_; have BK101 := n3_; have HB := n4_; clear n0_ n1_ n2_ n3_ n4_; (try clear hb); (try clear hb2); (try clear hk); (try clear hi); (try clear ho0); obtain ⟨Ao81, co81, eo81⟩ := Kd.R_slice HO106.out; subst eo81; obtain ⟨Ao82, co82, eo82⟩ := Kd.S_slice HO109.out; subst eo82; obtain ⟨Ao83, co83, eo83⟩ := Kd.R_slice HO112.out; subst eo83) | ((with_reducible refine gate_callee (f := 31) rfl ?_); refine goesL_ (some 24) rfl rfl Try.func31 (by kernel_rfl) rfl #[.agg #[.slice Ao81 t104.length co81, .slice Ao82 t107.length co82], .slice Ao83 t110.length co83] rfl (pY27) ?_; (with_reducible refine (spec_ShareFits.calls k _ _ t104 _ _ t107 _ _ t110 t113 _ ?side1 ?side2 ?side3 ?side4 ?side5 ?side6 A15.out).mono ?_); (case side1 => exact pC (Kd.R_reads' HO106.out).2.2); (case side2 => exact (Kd.R_reads' HO106.out).2.1); (case side3 => exact pC (Kd.S_reads' HO109.out).2.2); (case side4 => exact (Kd.S_reads' HO109.out).2.1); (case side5 => exact pC (Kd.R_reads' HO112.out).2.2); (case side6 => exact (Kd.R_reads' HO112.out).2.1); rintro e w84 ⟨rfl, hb⟩; refine ⟨_, rfl, ?_⟩; have n0_ := Aside0.mk (Kd.R_below (pY32) hb); have n1_ := Aside0.mk (Kd.S_below (pY33) hb); have n2_ := Aside0.mk (Kd.R_below (pY34) hb); have n3_ := Aside0.mk (blk_below (g := gb101) (o := .cells #[.slice A0_0 l0_0.length c0_0, .slice A0_1 l0_1.length c0_1] 26 (0, 0)) (pY29) hb); have n4_ := Aside0.mk (below_step (pY26) hb); clear HO106; clear HO109; clear HO112; clear BK101; clear HB; have HO106 := n0_; have HO109 := n1_; have HO112 := n2_; have BK101 := n3_; have HB := n4_; clear n0_ n1_ n2_ n3_ n4_; (try clear hb); (try clear hb2); (try clear hk); (try clear hi); have hcz85_0 : w84.cell? ⟨gb101, 0, none⟩ = some (.slice A0_0 l0_0.length c0_0) := (blk_cell BK101.out 0).trans rfl; have hcz85_1 : w84.cell? ⟨gb101, 1, none⟩ = some (.slice A0_1 l0_1.length c0_1) := (blk_cell BK101.out 1).trans rfl; have hfz85_0 := blk_frozen BK101.out 0; have hfz85_1 := blk_frozen BK101.out 1) | ((with_reducible refine gate_callee (f := 23) rfl ?_); refine goesL_ (some 26) rfl rfl Try.func23 (by kernel_rfl) rfl #[.agg #[.slice A0_0 l0_0.length c0_0, .slice A0_1 l0_1.length c0_1]] rfl (pY27) ?_; (with_reducible refine (laws_toShareBook.calls k _ _ l0_0 _ _ l0_1 t114 t117 _ ?side1 ?side2 ?side3 ?side4 A16.out).mono ?_); (case side1 => exact pC (Kd.C_below HR0_0.out HB.out)); (case side2 => exact HC0_0.out); (case side3 => exact pC (Kd.C_below HR0_1.out HB.out)); (case side4 => exact HC0_1.out); rintro e w86 ⟨v115, v118, rfl, ho0, ho1, hb⟩; refine ⟨_, rfl, ?_⟩; have n0_ := Aside0.mk (Kd.R_elder' (pY32) (Kd.R_base ho0) hb); have n1_ := Aside0.mk (Kd.S_mono (Kd.S_told (Kd.S_told (Kd.S_old (pY33) hb) (Kd.R_base ho0)) (Kd.S_base ho1)) (fun _ h_ => h_.1)); have n2_ := Aside0.mk (Kd.R_elder' (pY34) (Kd.R_base ho0) hb); have n3_ := Aside0.mk (Kd.R_lower (Kd.R_new' (Kd.R_new' ho0 (Kd.R_lt (pY32))) (Kd.R_lt (pY34))) (below_size (pY26))); have n4_ := Aside0.mk (Kd.S_lower (Kd.S_new' (Kd.S_new' (Kd.S_new' ho1 (Kd.R_lt (pY32))) (Kd.S_lt (pY33))) (Kd.R_lt (pY34))) (below_size (pY26))); have n5_ := Aside0.mk (blk_below (g := gb101) (o := .cells #[.slice A0_0 l0_0.length c0_0, .slice A0_1 l0_1.length c0_1] 26 (0, 0)) (pY29) hb); have n6_ := Aside0.mk (below_step (pY26) hb); clear HO106; clear HO109; clear HO112; clear BK101; clear HB; have HO106 := n0_; have HO109 := n1_; have HO112 := n2_; have HO116 := n3_; have HO119 := n4_; have BK101 := n5_; have HB := n6_; clear n0_ n1_ n2_ n3_ n4_ n5_ n6_; (try clear hb); (try clear hb2); (try clear hk); (try clear hi); (try clear ho0); (try clear ho1)) | ((with_reducible refine gate_dst (N := 7) rfl ?_); refine box_event ?hg (N := 7) ?hd (cs := #[.slice none 0 0, .slice none 0 0]) (t := 31) ?hr ?_; (case hd => rfl); (case hg => rfl); (case hr => first | (go_simp; done) | (go_simp; rfl)); intro gb120 hg w87 hbox hb; have n0_ := Aside0.mk (Kd.R_below (pY32) hb); have n1_ := Aside0.mk (Kd.S_below (pY33) hb); have n2_ := Aside0.mk (Kd.R_below (pY34) hb); have n3_ := Aside0.mk (Kd.R_below (pY35) hb); have n4_ := Aside0.mk (Kd.S_below (pY36) hb); have n5_ := Aside0.mk (blk_below (g := gb101) (o := .cells #[.slice A0_0 l0_0.length c0_0, .slice A0_1 l0_1.length c0_1] 26 (0, 0)) (pY29) hb); have n6_ := Aside0.mk (below_step (pY26) hb); have n7_ := Aside0.mk (hbox); have n8_ := Aside0.mk ((pY18 : w.heap.size ≤ gb120)); have n9_ := Aside0.mk ((pY18 : w.heap.size ≤ gb120)); have n10_ := Aside0.mk ((pY12 : gb101 ≠ gb120)); have n11_ := Aside0.mk ((pY13 : gb120 ≠ gb101)); clear HO106; clear HO109; clear HO112; clear HO116; clear HO119; clear BK101; clear HB; have HO106 := n0_; have HO109 := n1_; have HO112 := n2_; have HO116 := n3_; have HO119 := n4_; have BK101 := n5_; have HB := n6_; have BK120 := n7_; have GW120 := n8_; have GE120 := n9_; have NB101_120 := n10_; have NB120_101 := n11_; clear n0_ n1_ n2_ n3_ n4_ n5_ n6_ n7_ n8_ n9_ n10_ n11_; clear hb hbox hg; obtain ⟨Ao88, co88, eo88⟩ := Kd.R_slice HO116.out; subst eo88; have hnb89 := NB120_101.out; have hnc89 := NB101_120.out; have hcz90_0 : w87.cell? ⟨gb120, 0, none⟩ = some (.slice none 0 0) := (blk_cell BK120.out 0).trans rfl; have hcz90_1 : w87.cell? ⟨gb120, 1, none⟩ = some (.slice none 0 0) := (blk_cell BK120.out 1).trans rfl; have hfz90_0 := blk_frozen BK120.out 0; have hfz90_1 := blk_frozen BK120.out 1; obtain ⟨Ao91, co91, eo91⟩ := Kd.S_slice HO119.out; subst eo91) | ((with_reducible refine gate_callee (f := 32) rfl ?_); refine goesL_ (some 28) rfl rfl Try.func32 (by kernel_rfl) rfl #[.slice A1 l1.length c1] rfl (pY27) ?_; (with_reducible refine (laws_toStringS.calls k _ _ l1 t121 _ ?side1 ?side2 A17.out).mono ?_); (case side1 => exact Kd.C_below HR1.out (pY24)); (case side2 => exact HC1.out); rintro e w92 ⟨v122, rfl, ho0, hb⟩; refine ⟨_, rfl, ?_⟩; have n0_ := Aside0.mk (Kd.R_elder' (by (with_reducible repeat (first | apply Kd.R_alloc | apply Kd.R_drewN | apply Kd.R_drew)); exact (Kd.R_mono (Kd.R_far (p := ⟨gb120, 1, none⟩) (Kd.R_far (p := ⟨gb120, 0, none⟩) (Kd.R_types HO106.out BK120.out (by decide)) (fun _ hk => hk.2) (.slice Ao88 t114.length co88)) (fun _ hk => hk.2) (.slice Ao91 t117.length co91)) (fun _ h_ => h_.1))) (Kd.R_base ho0) hb); have n1_ := Aside0.mk (Kd.S_elder' (by (with_reducible repeat (first | apply Kd.S_alloc | apply Kd.S_drewN | apply Kd.S_drew)); exact (Kd.S_mono (Kd.S_far (p := ⟨gb120, 1, none⟩) (Kd.S_far (p := ⟨gb120, 0, none⟩) (Kd.S_types HO109.out BK120.out (by decide)) (fun _ hk => hk.2) (.slice Ao88 t114.length co88)) (fun _ hk => hk.2) (.slice Ao91 t117.length co91)) (fun _ h_ => h_.1))) (Kd.R_base ho0) hb); have n2_ := Aside0.mk (Kd.R_elder' (by (with_reducible repeat (first | apply Kd.R_alloc | apply Kd.R_drewN | apply Kd.R_drew)); exact (Kd.R_mono (Kd.R_far (p := ⟨gb120, 1, none⟩) (Kd.R_far (p := ⟨gb120, 0, none⟩) (Kd.R_types HO112.out BK120.out (by decide)) (fun _ hk => hk.2) (.slice Ao88 t114.length co88)) (fun _ hk => hk.2) (.slice Ao91 t117.length co91)) (fun _ h_ => h_.1))) (Kd.R_base ho0) hb); have n3_ := Aside0.mk (Kd.R_elder' (by (with_reducible repeat (first | apply Kd.R_alloc | apply Kd.R_drewN | apply Kd.R_drew)); exact (Kd.R_mono (Kd.R_far (p := ⟨gb120, 1, none⟩) (Kd.R_far (p := ⟨gb120, 0, none⟩) (Kd.R_types HO116.out BK120.out (by decide)) (fun _ hk => hk.2) (.slice Ao88 t114.length co88)) (fun _ hk => hk.2) (.slice Ao91 t117.length co91)) (fun _ h_ => h_.1))) (Kd.R_base ho0) hb); have n4_ := Aside0.mk (Kd.S_elder' (by (with_reducible repeat (first | apply Kd.S_alloc | apply Kd.S_drewN | apply Kd.S_drew)); exact (Kd.S_mono (Kd.S_far (p := ⟨gb120, 1, none⟩) (Kd.S_far (p := ⟨gb120, 0, none⟩) (Kd.S_types HO119.out BK120.out (by decide)) (fun _ hk => hk.2) (.slice Ao88 t114.length co88)) (fun _ hk => hk.2) (.slice Ao91 t117.length co91)) (fun _ h_ => h_.1))) (Kd.R_base ho0) hb); have n5_ := Aside0.mk (Kd.R_lower (Kd.R_new' (Kd.R_new' (Kd.R_new' ho0 (Kd.R_lt (by (with_reducible repeat (first | apply Kd.R_alloc | apply Kd.R_drewN | apply Kd.R_drew)); exact (Kd.R_mono (Kd.R_far (p := ⟨gb120, 1, none⟩) (Kd.R_far (p := ⟨gb120, 0, none⟩) (Kd.R_types HO106.out BK120.out (by decide)) (fun _ hk => hk.2) (.slice Ao88 t114.length co88)) (fun _ hk => hk.2) (.slice Ao91 t117.length co91)) (fun _ h_ => h_.1))))) (Kd.R_lt (by (with_reducible repeat (first | apply Kd.R_alloc | apply Kd.R_drewN | apply Kd.R_drew)); exact (Kd.R_mono (Kd.R_far (p := ⟨gb120, 1, none⟩) (Kd.R_far (p := ⟨gb120, 0, none⟩) (Kd.R_types HO112.out BK120.out (by decide)) (fun _ hk => hk.2) (.slice Ao88 t114.length co88)) (fun _ hk => hk.2) (.slice Ao91 t117.length co91)) (fun _ h_ => h_.1))))) (Kd.R_lt (by (with_reducible repeat (first | apply Kd.R_alloc | apply Kd.R_drewN | apply Kd.R_drew)); exact (Kd.R_mono (Kd.R_far (p := ⟨gb120, 1, none⟩) (Kd.R_far (p := ⟨gb120, 0, none⟩) (Kd.R_types HO116.out BK120.out (by decide)) (fun _ hk => hk.2) (.slice Ao88 t114.length co88)) (fun _ hk => hk.2) (.slice Ao91 t117.length co91)) (fun _ h_ => h_.1))))) (below_size (pY24))); have n6_ := Aside0.mk (blk_below (g := gb101) (o := .cells #[.slice A0_0 l0_0.length c0_0, .slice A0_1 l0_1.length c0_1] 26 (0, 0)) (pY5) hb); have n7_ := Aside0.mk (blk_below (g := gb120) (o := .cells #[.slice Ao88 t114.length co88, .slice Ao91 t117.length co91] 31 (0, 0)) (by (with_reducible repeat (first | refine blk_drewN ?_ _ | refine blk_drew ?_ | refine blk_alloc ?_ _)); refine blk_put (cs := #[.slice Ao88 t114.length co88, .slice none 0 0]) ?_ 1 _ rfl; (with_reducible repeat (first | refine blk_drewN ?_ _ | refine blk_drew ?_ | refine blk_alloc ?_ _)); refine blk_put (cs := #[.slice none 0 0, .slice none 0 0]) ?_ 0 _ rfl; (with_reducible repeat (first | refine blk_drewN ?_ _ | refine blk_drew ?_ | refine blk_alloc ?_ _)); exact BK120.out) hb); have n8_ := Aside0.mk (below_step (pY24) hb); clear HO106; clear HO109; clear HO112; clear HO116; clear HO119; clear BK101; clear BK120; clear HB; have HO106 := n0_; have HO109 := n1_; have HO112 := n2_; have HO116 := n3_; have HO119 := n4_; have HO123 := n5_; have BK101 := n6_; have BK120 := n7_; have HB := n8_; clear n0_ n1_ n2_ n3_ n4_ n5_ n6_ n7_ n8_; (try clear hb); (try clear hb2); (try clear hk); (try clear hi); (try clear ho0); have hcz93_0 : w92.cell? ⟨gb120, 0, none⟩ = some (.slice Ao88 t114.length co88) := (blk_cell BK120.out 0).trans rfl; have hcz93_1 : w92.cell? ⟨gb120, 1, none⟩ = some (.slice Ao91 t117.length co91) := (blk_cell BK120.out 1).trans rfl; have hfz93_0 := blk_frozen BK120.out 0; have hfz93_1 := blk_frozen BK120.out 1; obtain ⟨Ao94, co94, eo94⟩ := Kd.R_slice HO123.out; subst eo94) | ((with_reducible refine gate_callee (f := 33) rfl ?_); refine goesL_ (some 31) rfl rfl Try.func33 (by kernel_rfl) rfl #[.agg #[.slice Ao88 t114.length co88, .slice Ao91 t117.length co91], .slice Ao94 t121.length co94] rfl (pY27) ?_; (with_reducible refine (impl_ShareFits.calls k _ _ t114 _ _ t117 _ _ t121 t124 _ ?side1 ?side2 ?side3 ?side4 ?side5 ?side6 A18.out).mono ?_); (case side1 => exact pC (Kd.R_reads' HO116.out).2.2); (case side2 => exact (Kd.R_reads' HO116.out).2.1); (case side3 => exact pC (Kd.S_reads' HO119.out).2.2); (case side4 => exact (Kd.S_reads' HO119.out).2.1); (case side5 => exact pC (Kd.R_reads' HO123.out).2.2); (case side6 => exact (Kd.R_reads' HO123.out).2.1); rintro e w95 ⟨rfl, hb⟩; refine ⟨_, rfl, ?_⟩; have n0_ := Aside0.mk (Kd.R_below (pY32) hb); have n1_ := Aside0.mk (Kd.S_below (pY33) hb); have n2_ := Aside0.mk (Kd.R_below (pY34) hb); have n3_ := Aside0.mk (Kd.R_below (pY35) hb); have n4_ := Aside0.mk (Kd.S_below (pY36) hb); have n5_ := Aside0.mk (Kd.R_below (pY37) hb); have n6_ := Aside0.mk (blk_below (g := gb101) (o := .cells #[.slice A0_0 l0_0.length c0_0, .slice A0_1 l0_1.length c0_1] 26 (0, 0)) (pY29) hb); have n7_ := Aside0.mk (blk_below (g := gb120) (o := .cells #[.slice Ao88 t114.length co88, .slice Ao91 t117.length co91] 31 (0, 0)) (pY31) hb); have n8_ := Aside0.mk (below_step (pY24) hb); clear HO106; clear HO109; clear HO112; clear HO116; clear HO119; clear HO123; clear BK101; clear BK120; clear HB; have HO106 := n0_; have HO109 := n1_; have HO112 := n2_; have HO116 := n3_; have HO119 := n4_; have HO123 := n5_; have BK101 := n6_; have BK120 := n7_; have HB := n8_; clear n0_ n1_ n2_ n3_ n4_ n5_ n6_ n7_ n8_; (try clear hb); (try clear hb2); (try clear hk); (try clear hi)))
      have n0_ := Aside0.mk (Kd.R_drew HO106.out)
      have n1_ := Aside0.mk (Kd.S_drew HO109.out)
      have n2_ := Aside0.mk (Kd.R_drew HO112.out)
      have n3_ := Aside0.mk (Kd.R_drew HO116.out)
      have n4_ := Aside0.mk (Kd.S_drew HO119.out)
      have n5_ := Aside0.mk (Kd.R_drew HO123.out)
      have n6_ := Aside0.mk (blk_drew BK101.out)
      have n7_ := Aside0.mk (blk_drew BK120.out)
      have n8_ := Aside0.mk (below_drew1 HB.out)
      clear HO106
      clear HO109
      clear HO112
      clear HO116
      clear HO119
      clear HO123
      clear BK101
      clear BK120
      clear HB
      have HO106 := n0_
      have HO109 := n1_
      have HO112 := n2_
      have HO116 := n3_
      have HO119 := n4_
      have HO123 := n5_
      have BK101 := n6_
      have BK120 := n7_
      have HB := n8_
      clear n0_ n1_ n2_ n3_ n4_ n5_ n6_ n7_ n8_
      refine start_ (n := 5) (S := fun w' => w'.cell? ⟨gb120, 0, none⟩ = some (.slice Ao88 t114.length co88) ∧ w'.cell? ⟨gb120, 1, none⟩ = some (.slice Ao91 t117.length co91) ∧ w'.cell? ⟨gb101, 0, none⟩ = some (.slice A0_0 l0_0.length c0_0) ∧ w'.cell? ⟨gb101, 1, none⟩ = some (.slice A0_1 l0_1.length c0_1)) (ds := []) #[false, false, false, false, false] (by kernel_rfl) rfl rfl ⟨(blk_cell BK120.out 0).trans rfl, (blk_cell BK120.out 1).trans rfl, (blk_cell BK101.out 0).trans rfl, (blk_cell BK101.out 1).trans rfl⟩ (fun hHeld => ?_)
      generalize w95.drew = w96 at HO106 HO109 HO112 HO116 HO119 HO123 BK101 BK120 HB hHeld ⊢
      refine tK4_ (i := 0) (N := some 35) #[true, false, false, false, false] ?_
      refine tK4_ (i := 1) (N := some 36) #[true, true, false, false, false] ?_
      refine one_ (i := 2) (N := some 37) #[true, true, true, false, false] rfl rfl (by kernel_rfl) (by decide) (fun K hK => ?_)
      refine goes_ Try.func23 (by kernel_rfl) rfl #[.agg #[.slice A0_0 l0_0.length c0_0, .slice A0_1 l0_1.length c0_1]] (by rfl) rfl rfl (pY27) ?_
      with_reducible refine (laws_toShareBook.calls k _ _ l0_0 _ _ l0_1 t125 t128 _ ?side1 ?side2 ?side3 ?side4 A41.out).mono ?_
      (case side1 => exact pC (Kd.C_below HR0_0.out HB.out))
      (case side2 => exact HC0_0.out)
      (case side3 => exact pC (Kd.C_below HR0_1.out HB.out))
      (case side4 => exact HC0_1.out)
      rintro e w97 ⟨v126, v129, rfl, ho0, ho1, hb⟩
      refine ⟨_, rfl, ?_⟩
      have n0_ := Aside0.mk (Kd.R_elder' (pY32) (Kd.R_base ho0) hb)
      have n1_ := Aside0.mk (Kd.S_mono (Kd.S_told (Kd.S_told (Kd.S_old (pY33) hb) (Kd.R_base ho0)) (Kd.S_base ho1)) (fun _ h_ => h_.1))
      have n2_ := Aside0.mk (Kd.R_elder' (pY34) (Kd.R_base ho0) hb)
      have n3_ := Aside0.mk (Kd.R_elder' (pY35) (Kd.R_base ho0) hb)
      have n4_ := Aside0.mk (Kd.S_mono (Kd.S_told (Kd.S_told (Kd.S_old (pY36) hb) (Kd.R_base ho0)) (Kd.S_base ho1)) (fun _ h_ => h_.1))
      have n5_ := Aside0.mk (Kd.R_elder' (pY37) (Kd.R_base ho0) hb)
      have n6_ := Aside0.mk (Kd.R_lower (Kd.R_new' (Kd.R_new' (Kd.R_new' (Kd.R_new' ho0 (Kd.R_lt (pY32))) (Kd.R_lt (pY34))) (Kd.R_lt (pY35))) (Kd.R_lt (pY37))) (below_size (pY24)))
      have n7_ := Aside0.mk (Kd.S_lower (Kd.S_new' (Kd.S_new' (Kd.S_new' (Kd.S_new' (Kd.S_new' (Kd.S_new' ho1 (Kd.R_lt (pY32))) (Kd.S_lt (pY33))) (Kd.R_lt (pY34))) (Kd.R_lt (pY35))) (Kd.S_lt (pY36))) (Kd.R_lt (pY37))) (below_size (pY24)))
      have n8_ := Aside0.mk (blk_below (g := gb101) (o := .cells #[.slice A0_0 l0_0.length c0_0, .slice A0_1 l0_1.length c0_1] 26 (0, 0)) (pY29) hb)
      have n9_ := Aside0.mk (blk_below (g := gb120) (o := .cells #[.slice Ao88 t114.length co88, .slice Ao91 t117.length co91] 31 (0, 0)) (pY31) hb)
      have n10_ := Aside0.mk (below_step (pY24) hb)
      clear HO106
      clear HO109
      clear HO112
      clear HO116
      clear HO119
      clear HO123
      clear BK101
      clear BK120
      clear HB
      have HO106 := n0_
      have HO109 := n1_
      have HO112 := n2_
      have HO116 := n3_
      have HO119 := n4_
      have HO123 := n5_
      have HO127 := n6_
      have HO130 := n7_
      have BK101 := n8_
      have BK120 := n9_
      have HB := n10_
      clear n0_ n1_ n2_ n3_ n4_ n5_ n6_ n7_ n8_ n9_ n10_
      (try clear hb)
      (try clear hb2)
      (try clear hk)
      (try clear hi)
      (try clear ho0)
      (try clear ho1)
      obtain ⟨Ao98, co98, eo98⟩ := Kd.R_slice HO127.out
      (first | subst eo98 | (injection eo98 with f1_ f2_ f3_; have f4_ := f1_.symm; have f5_ := f3_.symm; clear f1_ f2_ f3_; subst f4_; subst f5_))
      obtain ⟨Ao99, co99, eo99⟩ := Kd.S_slice HO130.out
      (first | subst eo99 | (injection eo99 with f1_ f2_ f3_; have f4_ := f1_.symm; have f5_ := f3_.symm; clear f1_ f2_ f3_; subst f4_; subst f5_))
      refine hK.out _ _ ⟨(blk_cell BK120.out 0).trans rfl, (blk_cell BK120.out 1).trans rfl, (blk_cell BK101.out 0).trans rfl, (blk_cell BK101.out 1).trans rfl⟩ (fun hHeld => ?_)
      clear hK K
      refine norm_ (a' := ?_) ?_ ?_
      rotate_left
      ·show Act.put _ (some 37) _ = _
       simp only [pW]
       rfl
      refine one_ (i := 3) (N := some 38) #[true, true, true, true, false] rfl rfl (by kernel_rfl) (by decide) (fun K hK => ?_)
      refine goes_ Try.func25 (by kernel_rfl) rfl #[.agg #[.slice Ao88 t114.length co88, .slice Ao91 t117.length co91], .agg #[.slice Ao98 t125.length co98, .slice Ao99 t128.length co99]] (by rfl) rfl rfl (pY27) ?_
      with_reducible refine (laws_eqShareBook.calls k _ _ t114 _ _ t117 _ _ t125 _ _ t128 true _ ?side1 ?side2 ?side3 ?side4 ?side5 ?side6 ?side7 ?side8 A42.out).mono ?_
      (case side1 => exact pC (Kd.R_reads' HO116.out).2.2)
      (case side2 => exact (Kd.R_reads' HO116.out).2.1)
      (case side3 => exact pC (Kd.S_reads' HO119.out).2.2)
      (case side4 => exact (Kd.S_reads' HO119.out).2.1)
      (case side5 => exact pC (Kd.R_reads' HO127.out).2.2)
      (case side6 => exact (Kd.R_reads' HO127.out).2.1)
      (case side7 => exact pC (Kd.S_reads' HO130.out).2.2)
      (case side8 => exact (Kd.S_reads' HO130.out).2.1)
      rintro e w100 ⟨rfl, hb⟩
      refine ⟨_, rfl, ?_⟩
      have n0_ := Aside0.mk (Kd.R_below (pY32) hb)
      have n1_ := Aside0.mk (Kd.S_below (pY33) hb)
      have n2_ := Aside0.mk (Kd.R_below (pY34) hb)
      have n3_ := Aside0.mk (Kd.R_below (pY35) hb)
      have n4_ := Aside0.mk (Kd.S_below (pY36) hb)
      have n5_ := Aside0.mk (Kd.R_below (pY37) hb)
      have n6_ := Aside0.mk (Kd.R_below (by (with_reducible repeat (first | apply Kd.R_alloc | apply Kd.R_drewN | apply Kd.R_drew)); exact HO127.out) hb)
      have n7_ := Aside0.mk (Kd.S_below (by (with_reducible repeat (first | apply Kd.S_alloc | apply Kd.S_drewN | apply Kd.S_drew)); exact HO130.out) hb)
      have n8_ := Aside0.mk (blk_below (g := gb101) (o := .cells #[.slice A0_0 l0_0.length c0_0, .slice A0_1 l0_1.length c0_1] 26 (0, 0)) (pY29) hb)
      have n9_ := Aside0.mk (blk_below (g := gb120) (o := .cells #[.slice Ao88 t114.length co88, .slice Ao91 t117.length co91] 31 (0, 0)) (pY31) hb)
      have n10_ := Aside0.mk (below_step (pY24) hb)
      clear HO106
      clear HO109
      clear HO112
      clear HO116
      clear HO119
      clear HO123
      clear HO127
      clear HO130
      clear BK101
      clear BK120
      clear HB
      have HO106 := n0_
      have HO109 := n1_
      have HO112 := n2_
      have HO116 := n3_
      have HO119 := n4_
      have HO123 := n5_
      have HO127 := n6_
      have HO130 := n7_
      have BK101 := n8_
      have BK120 := n9_
      have HB := n10_
      clear n0_ n1_ n2_ n3_ n4_ n5_ n6_ n7_ n8_ n9_ n10_
      (try clear hb)
      (try clear hb2)
      (try clear hk)
      (try clear hi)
      refine hK.out _ _ ⟨(blk_cell BK120.out 0).trans rfl, (blk_cell BK120.out 1).trans rfl, (blk_cell BK101.out 0).trans rfl, (blk_cell BK101.out 1).trans rfl⟩ (fun hHeld => ?_)
      clear hK K
      refine norm_ (a' := ?_) ?_ ?_
      rotate_left
      ·show Act.put _ (some 38) _ = _
       simp only [pW]
       rfl
      refine pU0 (i := 4) (N := some 39) #[true, true, true, true, true] ?_
      refine done_ (by kernel_rfl) ?_
      try go_wp2_with (first | ((with_reducible refine gate_callee (f := 32) rfl ?_); refine goesL_ (some 42) rfl rfl Try.func32 (by kernel_rfl) rfl #[.slice A1 l1.length c1] rfl (pY27) ?_; (with_reducible refine (laws_toStringS.calls k _ _ l1 t132 _ ?side1 ?side2 A44.out).mono ?_); (case side1 => exact pC (Kd.C_below HR1.out HB.out)); (case side2 => exact HC1.out); rintro e w101 ⟨v133, rfl, ho0, hb⟩; refine ⟨_, rfl, ?_⟩; have n0_ := Aside0.mk (Kd.R_elder' (pY32) (Kd.R_base ho0) hb); have n1_ := Aside0.mk (Kd.S_elder' (pY33) (Kd.R_base ho0) hb); have n2_ := Aside0.mk (Kd.R_elder' (pY34) (Kd.R_base ho0) hb); have n3_ := Aside0.mk (Kd.R_elder' (pY35) (Kd.R_base ho0) hb); have n4_ := Aside0.mk (Kd.S_elder' (pY36) (Kd.R_base ho0) hb); have n5_ := Aside0.mk (Kd.R_elder' (pY37) (Kd.R_base ho0) hb); have n6_ := Aside0.mk (Kd.R_elder' (by (with_reducible repeat (first | apply Kd.R_alloc | apply Kd.R_drewN | apply Kd.R_drew)); exact HO127.out) (Kd.R_base ho0) hb); have n7_ := Aside0.mk (Kd.S_elder' (by (with_reducible repeat (first | apply Kd.S_alloc | apply Kd.S_drewN | apply Kd.S_drew)); exact HO130.out) (Kd.R_base ho0) hb); have n8_ := Aside0.mk (Kd.R_lower (Kd.R_new' (Kd.R_new' (Kd.R_new' (Kd.R_new' (Kd.R_new' ho0 (Kd.R_lt (pY32))) (Kd.R_lt (pY34))) (Kd.R_lt (pY35))) (Kd.R_lt (pY37))) (Kd.R_lt (by (with_reducible repeat (first | apply Kd.R_alloc | apply Kd.R_drewN | apply Kd.R_drew)); exact HO127.out))) (below_size (pY24))); have n9_ := Aside0.mk (blk_below (g := gb101) (o := .cells #[.slice A0_0 l0_0.length c0_0, .slice A0_1 l0_1.length c0_1] 26 (0, 0)) (pY29) hb); have n10_ := Aside0.mk (blk_below (g := gb120) (o := .cells #[.slice Ao88 t114.length co88, .slice Ao91 t117.length co91] 31 (0, 0)) (pY31) hb); have n11_ := Aside0.mk (below_step (pY24) hb); clear HO106; clear HO109; clear HO112; clear HO116; clear HO119; clear HO123; clear HO127; clear HO130; clear BK101; clear BK120; clear HB; have HO106 := n0_; have HO109 := n1_; have HO112 := n2_; have HO116 := n3_; have HO119 := n4_; have HO123 := n5_; have HO127 := n6_; have HO130 := n7_; have HO134 := n8_; have BK101 := n9_; have BK120 := n10_; have HB := n11_; clear n0_ n1_ n2_ n3_ n4_ n5_ n6_ n7_ n8_ n9_ n10_ n11_; (try clear hb); (try clear hb2); (try clear hk); (try clear hi); (try clear ho0); obtain ⟨Ao102, co102, eo102⟩ := Kd.R_slice HO134.out; subst eo102) | ((with_reducible refine gate_callee (f := 34) rfl ?_); refine goesL_ (some 43) rfl rfl Try.func34 (by kernel_rfl) rfl #[.slice Ao94 t121.length co94, .slice Ao102 t132.length co102] rfl (pY27) ?_; (with_reducible refine (laws_eqStringS.calls k _ _ t121 _ _ t132 false _ ?side1 ?side2 ?side3 ?side4 A45.out).mono ?_); (case side1 => exact pC (Kd.R_reads' HO123.out).2.2); (case side2 => exact (Kd.R_reads' HO123.out).2.1); (case side3 => exact pC (Kd.R_reads' HO134.out).2.2); (case side4 => exact (Kd.R_reads' HO134.out).2.1); rintro e w' ⟨rfl, ⟨nd, rfl⟩⟩; refine ⟨_, rfl, ?_⟩))
      go_ret
      exact ⟨by first | rfl | (simp [errW_none, errW_some] <;> rfl) | (simp [*, errW_none, errW_some] <;> rfl), pY24⟩
    ·replace c43 := Bool.eq_false_iff.mpr c43
     subst c43
     have H1 : (some false) = some r := by rw [if_neg (show ¬ (false = true) by decide)] at H; exact H
     clear H
     have H := H1
     clear H1
     obtain rfl := Option.some.inj H
     go_enter Try.func7, Try.ntmps7
     try go_wp2_with (first | ((with_reducible refine gate_dst (N := 2) rfl ?_); refine box_event ?hg (N := 2) ?hd (cs := #[.slice A0_0 l0_0.length c0_0, .slice A0_1 l0_1.length c0_1]) (t := 26) ?hr ?_; (case hd => rfl); (case hg => rfl); (case hr => first | (go_simp; done) | (go_simp; rfl)); intro gb101 hg w103 hbox hb; have n0_ := Aside0.mk (below_step (pY28) hb); have n1_ := Aside0.mk (hbox); have n2_ := Aside0.mk ((pY25 : w.heap.size ≤ gb101)); have n3_ := Aside0.mk ((pY25 : w.heap.size ≤ gb101)); clear HB; have HB := n0_; have BK101 := n1_; have GW101 := n2_; have GE101 := n3_; clear n0_ n1_ n2_ n3_; clear hb hbox hg; have hcz104_0 : w103.cell? ⟨gb101, 0, none⟩ = some (.slice A0_0 l0_0.length c0_0) := (blk_cell BK101.out 0).trans rfl; have hcz104_1 : w103.cell? ⟨gb101, 1, none⟩ = some (.slice A0_1 l0_1.length c0_1) := (blk_cell BK101.out 1).trans rfl; have hfz104_0 := blk_frozen BK101.out 0; have hfz104_1 := blk_frozen BK101.out 1) | ((with_reducible refine gate_callee (f := 21) rfl ?_); refine goesL_ (some 12) rfl rfl Try.func21 (by kernel_rfl) rfl #[.agg #[.slice A0_0 l0_0.length c0_0, .slice A0_1 l0_1.length c0_1], .int .i64 1048576] rfl (pY27) ?_; (with_reducible refine (laws_szShareBook.calls k _ _ l0_0 _ _ l0_1 1048576 t102 _ ?side1 ?side2 ?side3 ?side4 A3.out).mono ?_); (case side1 => exact pC (Kd.C_below HR0_0.out HB.out)); (case side2 => exact HC0_0.out); (case side3 => exact pC (Kd.C_below HR0_1.out HB.out)); (case side4 => exact HC0_1.out); rintro e w105 ⟨rfl, hb⟩; refine ⟨_, rfl, ?_⟩; have n0_ := Aside0.mk (blk_below (g := gb101) (o := .cells #[.slice A0_0 l0_0.length c0_0, .slice A0_1 l0_1.length c0_1] 26 (0, 0)) (pY29) hb); have n1_ := Aside0.mk (below_step (pY26) hb); clear BK101; clear HB; have BK101 := n0_; have HB := n1_; clear n0_ n1_; (try clear hb); (try clear hb2); (try clear hk); (try clear hi)) | ((with_reducible refine gate_callee (f := 30) rfl ?_); refine goesL_ (some 17) rfl rfl Try.func30 (by kernel_rfl) rfl #[.slice A1 l1.length c1, .int .i64 t102] rfl (pY27) ?_; (with_reducible refine (laws_szStringS.calls k _ _ l1 t102 t103 _ ?side1 ?side2 A8.out).mono ?_); (case side1 => exact pC (Kd.C_below HR1.out HB.out)); (case side2 => exact HC1.out); rintro e w' ⟨rfl, ⟨nd, rfl⟩⟩; refine ⟨_, rfl, ?_⟩; (try (rw [drewN_self w105]; generalize hq_ : World.drewN w105 _ = w105; have n0_ : Aside0 (w105.heap[gb101]? = some (.cells #[.slice A0_0 l0_0.length c0_0, .slice A0_1 l0_1.length c0_1] 26 (0, 0))) := ⟨by rw [← hq_]; exact (pY29)⟩; have n1_ : Aside0 (Below w.heap.size w w105) := ⟨by rw [← hq_]; exact (pY26)⟩; clear BK101 HB hq_; have BK101 := n0_; have HB := n1_; clear n0_ n1_)); have hcz106_0 : w105.cell? ⟨gb101, 0, none⟩ = some (.slice A0_0 l0_0.length c0_0) := (blk_cell BK101.out 0).trans rfl; have hcz106_1 : w105.cell? ⟨gb101, 1, none⟩ = some (.slice A0_1 l0_1.length c0_1) := (blk_cell BK101.out 1).trans rfl; have hfz106_0 := blk_frozen BK101.out 0; have hfz106_1 := blk_frozen BK101.out 1) | ((with_reducible refine gate_callee (f := 23) rfl ?_); refine goesL_ (some 21) rfl rfl Try.func23 (by kernel_rfl) rfl #[.agg #[.slice A0_0 l0_0.length c0_0, .slice A0_1 l0_1.length c0_1]] rfl (pY27) ?_; (with_reducible refine (laws_toShareBook.calls k _ _ l0_0 _ _ l0_1 t104 t107 _ ?side1 ?side2 ?side3 ?side4 A13.out).mono ?_); (case side1 => exact pC (Kd.C_below HR0_0.out HB.out)); (case side2 => exact HC0_0.out); (case side3 => exact pC (Kd.C_below HR0_1.out HB.out)); (case side4 => exact HC0_1.out); rintro e w107 ⟨v105, v108, rfl, ho0, ho1, hb⟩; refine ⟨_, rfl, ?_⟩; have n0_ := Aside0.mk (Kd.R_lower ho0 (below_size (pY26))); have n1_ := Aside0.mk (Kd.S_lower ho1 (below_size (pY26))); have n2_ := Aside0.mk (blk_below (g := gb101) (o := .cells #[.slice A0_0 l0_0.length c0_0, .slice A0_1 l0_1.length c0_1] 26 (0, 0)) (pY29) hb); have n3_ := Aside0.mk (below_step (pY26) hb); clear BK101; clear HB; have HO106 := n0_; have HO109 := n1_; have BK101 := n2_; have HB := n3_; clear n0_ n1_ n2_ n3_; (try clear hb); (try clear hb2); (try clear hk); (try clear hi); (try clear ho0); (try clear ho1)) | ((with_reducible refine gate_callee (f := 32) rfl ?_); refine goesL_ (some 23) rfl rfl Try.func32 (by kernel_rfl) rfl #[.slice A1 l1.length c1] rfl (pY27) ?_; (with_reducible refine (laws_toStringS.calls k _ _ l1 t110 _ ?side1 ?side2 A14.out).mono ?_); (case side1 => exact pC (Kd.C_below HR1.out HB.out)); (case side2 => exact HC1.out); rintro e w108 ⟨v111, rfl, ho0, hb⟩; refine ⟨_, rfl, ?_⟩; have n0_ := Aside0.mk (Kd.R_elder' (pY32) (Kd.R_base ho0) hb); have n1_ := Aside0.mk (Kd.S_elder' (pY33) (Kd.R_base ho0) hb); have n2_ := Aside0.mk (Kd.R_lower (Kd.R_new' ho0 (Kd.R_lt (pY32))) (below_size (pY26))); have n3_ := Aside0.mk (blk_below (g := gb101) (o := .cells #[.slice A0_0 l0_0.length c0_0, .slice A0_1 l0_1.length c0_1] 26 (0, 0)) (pY29) hb); have n4_ := Aside0.mk (below_step (pY26) hb); clear HO106; clear HO109; clear BK101; clear HB; have HO106 := n0_; have HO109 := n1_; have HO112 := n2_; have BK101 := n3_; have HB := n4_; clear n0_ n1_ n2_ n3_ n4_; (try clear hb); (try clear hb2); (try clear hk); (try clear hi); (try clear ho0); obtain ⟨Ao109, co109, eo109⟩ := Kd.R_slice HO106.out; subst eo109; obtain ⟨Ao110, co110, eo110⟩ := Kd.S_slice HO109.out; subst eo110; obtain ⟨Ao111, co111, eo111⟩ := Kd.R_slice HO112.out; subst eo111) | ((with_reducible refine gate_callee (f := 31) rfl ?_); refine goesL_ (some 24) rfl rfl Try.func31 (by kernel_rfl) rfl #[.agg #[.slice Ao109 t104.length co109, .slice Ao110 t107.length co110], .slice Ao111 t110.length co111] rfl (pY27) ?_; (with_reducible refine (spec_ShareFits.calls k _ _ t104 _ _ t107 _ _ t110 t113 _ ?side1 ?side2 ?side3 ?side4 ?side5 ?side6 A15.out).mono ?_); (case side1 => exact pC (Kd.R_reads' HO106.out).2.2); (case side2 => exact (Kd.R_reads' HO106.out).2.1); (case side3 => exact pC (Kd.S_reads' HO109.out).2.2); (case side4 => exact (Kd.S_reads' HO109.out).2.1); (case side5 => exact pC (Kd.R_reads' HO112.out).2.2); (case side6 => exact (Kd.R_reads' HO112.out).2.1); rintro e w112 ⟨rfl, hb⟩; refine ⟨_, rfl, ?_⟩; have n0_ := Aside0.mk (Kd.R_below (pY32) hb); have n1_ := Aside0.mk (Kd.S_below (pY33) hb); have n2_ := Aside0.mk (Kd.R_below (pY34) hb); have n3_ := Aside0.mk (blk_below (g := gb101) (o := .cells #[.slice A0_0 l0_0.length c0_0, .slice A0_1 l0_1.length c0_1] 26 (0, 0)) (pY29) hb); have n4_ := Aside0.mk (below_step (pY26) hb); clear HO106; clear HO109; clear HO112; clear BK101; clear HB; have HO106 := n0_; have HO109 := n1_; have HO112 := n2_; have BK101 := n3_; have HB := n4_; clear n0_ n1_ n2_ n3_ n4_; (try clear hb); (try clear hb2); (try clear hk); (try clear hi); have hcz113_0 : w112.cell? ⟨gb101, 0, none⟩ = some (.slice A0_0 l0_0.length c0_0) := (blk_cell BK101.out 0).trans rfl; have hcz113_1 : w112.cell? ⟨gb101, 1, none⟩ = some (.slice A0_1 l0_1.length c0_1) := (blk_cell BK101.out 1).trans rfl; have hfz113_0 := blk_frozen BK101.out 0; have hfz113_1 := blk_frozen BK101.out 1) | ((with_reducible refine gate_callee (f := 23) rfl ?_); refine goesL_ (some 26) rfl rfl Try.func23 (by kernel_rfl) rfl #[.agg #[.slice A0_0 l0_0.length c0_0, .slice A0_1 l0_1.length c0_1]] rfl (pY27) ?_; (with_reducible refine (laws_toShareBook.calls k _ _ l0_0 _ _ l0_1 t114 t117 _ ?side1 ?side2 ?side3 ?side4 A16.out).mono ?_); (case side1 => exact pC (Kd.C_below HR0_0.out HB.out)); (case side2 => exact HC0_0.out); (case side3 => exact pC (Kd.C_below HR0_1.out HB.out)); (case side4 => exact HC0_1.out); rintro e w114 ⟨v115, v118, rfl, ho0, ho1, hb⟩; refine ⟨_, rfl, ?_⟩; have n0_ := Aside0.mk (Kd.R_elder' (pY32) (Kd.R_base ho0) hb); have n1_ := Aside0.mk (Kd.S_mono (Kd.S_told (Kd.S_told (Kd.S_old (pY33) hb) (Kd.R_base ho0)) (Kd.S_base ho1)) (fun _ h_ => h_.1)); have n2_ := Aside0.mk (Kd.R_elder' (pY34) (Kd.R_base ho0) hb); have n3_ := Aside0.mk (Kd.R_lower (Kd.R_new' (Kd.R_new' ho0 (Kd.R_lt (pY32))) (Kd.R_lt (pY34))) (below_size (pY26))); have n4_ := Aside0.mk (Kd.S_lower (Kd.S_new' (Kd.S_new' (Kd.S_new' ho1 (Kd.R_lt (pY32))) (Kd.S_lt (pY33))) (Kd.R_lt (pY34))) (below_size (pY26))); have n5_ := Aside0.mk (blk_below (g := gb101) (o := .cells #[.slice A0_0 l0_0.length c0_0, .slice A0_1 l0_1.length c0_1] 26 (0, 0)) (pY29) hb); have n6_ := Aside0.mk (below_step (pY26) hb); clear HO106; clear HO109; clear HO112; clear BK101; clear HB; have HO106 := n0_; have HO109 := n1_; have HO112 := n2_; have HO116 := n3_; have HO119 := n4_; have BK101 := n5_; have HB := n6_; clear n0_ n1_ n2_ n3_ n4_ n5_ n6_; (try clear hb); (try clear hb2); (try clear hk); (try clear hi); (try clear ho0); (try clear ho1)) | ((with_reducible refine gate_dst (N := 7) rfl ?_); refine box_event ?hg (N := 7) ?hd (cs := #[.slice none 0 0, .slice none 0 0]) (t := 31) ?hr ?_; (case hd => rfl); (case hg => rfl); (case hr => first | (go_simp; done) | (go_simp; rfl)); intro gb120 hg w115 hbox hb; have n0_ := Aside0.mk (Kd.R_below (pY32) hb); have n1_ := Aside0.mk (Kd.S_below (pY33) hb); have n2_ := Aside0.mk (Kd.R_below (pY34) hb); have n3_ := Aside0.mk (Kd.R_below (pY35) hb); have n4_ := Aside0.mk (Kd.S_below (pY36) hb); have n5_ := Aside0.mk (blk_below (g := gb101) (o := .cells #[.slice A0_0 l0_0.length c0_0, .slice A0_1 l0_1.length c0_1] 26 (0, 0)) (pY29) hb); have n6_ := Aside0.mk (below_step (pY26) hb); have n7_ := Aside0.mk (hbox); have n8_ := Aside0.mk ((pY18 : w.heap.size ≤ gb120)); have n9_ := Aside0.mk ((pY18 : w.heap.size ≤ gb120)); have n10_ := Aside0.mk ((pY12 : gb101 ≠ gb120)); have n11_ := Aside0.mk ((pY13 : gb120 ≠ gb101)); clear HO106; clear HO109; clear HO112; clear HO116; clear HO119; clear BK101; clear HB; have HO106 := n0_; have HO109 := n1_; have HO112 := n2_; have HO116 := n3_; have HO119 := n4_; have BK101 := n5_; have HB := n6_; have BK120 := n7_; have GW120 := n8_; have GE120 := n9_; have NB101_120 := n10_; have NB120_101 := n11_; clear n0_ n1_ n2_ n3_ n4_ n5_ n6_ n7_ n8_ n9_ n10_ n11_; clear hb hbox hg; obtain ⟨Ao116, co116, eo116⟩ := Kd.R_slice HO116.out; subst eo116; have hnb117 := NB120_101.out; have hnc117 := NB101_120.out; have hcz118_0 : w115.cell? ⟨gb120, 0, none⟩ = some (.slice none 0 0) := (blk_cell BK120.out 0).trans rfl; have hcz118_1 : w115.cell? ⟨gb120, 1, none⟩ = some (.slice none 0 0) := (blk_cell BK120.out 1).trans rfl; have hfz118_0 := blk_frozen BK120.out 0; have hfz118_1 := blk_frozen BK120.out 1; obtain ⟨Ao119, co119, eo119⟩ := Kd.S_slice HO119.out; subst eo119) | ((with_reducible refine gate_callee (f := 32) rfl ?_); refine goesL_ (some 28) rfl rfl Try.func32 (by kernel_rfl) rfl #[.slice A1 l1.length c1] rfl (pY27) ?_; (with_reducible refine (laws_toStringS.calls k _ _ l1 t121 _ ?side1 ?side2 A17.out).mono ?_); (case side1 => exact Kd.C_below HR1.out (pY24)); (case side2 => exact HC1.out); rintro e w120 ⟨v122, rfl, ho0, hb⟩; refine ⟨_, rfl, ?_⟩; have n0_ := Aside0.mk (Kd.R_elder' (by (with_reducible repeat (first | apply Kd.R_alloc | apply Kd.R_drewN | apply Kd.R_drew)); exact (Kd.R_mono (Kd.R_far (p := ⟨gb120, 1, none⟩) (Kd.R_far (p := ⟨gb120, 0, none⟩) (Kd.R_types HO106.out BK120.out (by decide)) (fun _ hk => hk.2) (.slice Ao116 t114.length co116)) (fun _ hk => hk.2) (.slice Ao119 t117.length co119)) (fun _ h_ => h_.1))) (Kd.R_base ho0) hb); have n1_ := Aside0.mk (Kd.S_elder' (by (with_reducible repeat (first | apply Kd.S_alloc | apply Kd.S_drewN | apply Kd.S_drew)); exact (Kd.S_mono (Kd.S_far (p := ⟨gb120, 1, none⟩) (Kd.S_far (p := ⟨gb120, 0, none⟩) (Kd.S_types HO109.out BK120.out (by decide)) (fun _ hk => hk.2) (.slice Ao116 t114.length co116)) (fun _ hk => hk.2) (.slice Ao119 t117.length co119)) (fun _ h_ => h_.1))) (Kd.R_base ho0) hb); have n2_ := Aside0.mk (Kd.R_elder' (by (with_reducible repeat (first | apply Kd.R_alloc | apply Kd.R_drewN | apply Kd.R_drew)); exact (Kd.R_mono (Kd.R_far (p := ⟨gb120, 1, none⟩) (Kd.R_far (p := ⟨gb120, 0, none⟩) (Kd.R_types HO112.out BK120.out (by decide)) (fun _ hk => hk.2) (.slice Ao116 t114.length co116)) (fun _ hk => hk.2) (.slice Ao119 t117.length co119)) (fun _ h_ => h_.1))) (Kd.R_base ho0) hb); have n3_ := Aside0.mk (Kd.R_elder' (by (with_reducible repeat (first | apply Kd.R_alloc | apply Kd.R_drewN | apply Kd.R_drew)); exact (Kd.R_mono (Kd.R_far (p := ⟨gb120, 1, none⟩) (Kd.R_far (p := ⟨gb120, 0, none⟩) (Kd.R_types HO116.out BK120.out (by decide)) (fun _ hk => hk.2) (.slice Ao116 t114.length co116)) (fun _ hk => hk.2) (.slice Ao119 t117.length co119)) (fun _ h_ => h_.1))) (Kd.R_base ho0) hb); have n4_ := Aside0.mk (Kd.S_elder' (by (with_reducible repeat (first | apply Kd.S_alloc | apply Kd.S_drewN | apply Kd.S_drew)); exact (Kd.S_mono (Kd.S_far (p := ⟨gb120, 1, none⟩) (Kd.S_far (p := ⟨gb120, 0, none⟩) (Kd.S_types HO119.out BK120.out (by decide)) (fun _ hk => hk.2) (.slice Ao116 t114.length co116)) (fun _ hk => hk.2) (.slice Ao119 t117.length co119)) (fun _ h_ => h_.1))) (Kd.R_base ho0) hb); have n5_ := Aside0.mk (Kd.R_lower (Kd.R_new' (Kd.R_new' (Kd.R_new' ho0 (Kd.R_lt (by (with_reducible repeat (first | apply Kd.R_alloc | apply Kd.R_drewN | apply Kd.R_drew)); exact (Kd.R_mono (Kd.R_far (p := ⟨gb120, 1, none⟩) (Kd.R_far (p := ⟨gb120, 0, none⟩) (Kd.R_types HO106.out BK120.out (by decide)) (fun _ hk => hk.2) (.slice Ao116 t114.length co116)) (fun _ hk => hk.2) (.slice Ao119 t117.length co119)) (fun _ h_ => h_.1))))) (Kd.R_lt (by (with_reducible repeat (first | apply Kd.R_alloc | apply Kd.R_drewN | apply Kd.R_drew)); exact (Kd.R_mono (Kd.R_far (p := ⟨gb120, 1, none⟩) (Kd.R_far (p := ⟨gb120, 0, none⟩) (Kd.R_types HO112.out BK120.out (by decide)) (fun _ hk => hk.2) (.slice Ao116 t114.length co116)) (fun _ hk => hk.2) (.slice Ao119 t117.length co119)) (fun _ h_ => h_.1))))) (Kd.R_lt (by (with_reducible repeat (first | apply Kd.R_alloc | apply Kd.R_drewN | apply Kd.R_drew)); exact (Kd.R_mono (Kd.R_far (p := ⟨gb120, 1, none⟩) (Kd.R_far (p := ⟨gb120, 0, none⟩) (Kd.R_types HO116.out BK120.out (by decide)) (fun _ hk => hk.2) (.slice Ao116 t114.length co116)) (fun _ hk => hk.2) (.slice Ao119 t117.length co119)) (fun _ h_ => h_.1))))) (below_size (pY24))); have n6_ := Aside0.mk (blk_below (g := gb101) (o := .cells #[.slice A0_0 l0_0.length c0_0, .slice A0_1 l0_1.length c0_1] 26 (0, 0)) (pY5) hb); have n7_ := Aside0.mk (blk_below (g := gb120) (o := .cells #[.slice Ao116 t114.length co116, .slice Ao119 t117.length co119] 31 (0, 0)) (by (with_reducible repeat (first | refine blk_drewN ?_ _ | refine blk_drew ?_ | refine blk_alloc ?_ _)); refine blk_put (cs := #[.slice Ao116 t114.length co116, .slice none 0 0]) ?_ 1 _ rfl; (with_reducible repeat (first | refine blk_drewN ?_ _ | refine blk_drew ?_ | refine blk_alloc ?_ _)); refine blk_put (cs := #[.slice none 0 0, .slice none 0 0]) ?_ 0 _ rfl; (with_reducible repeat (first | refine blk_drewN ?_ _ | refine blk_drew ?_ | refine blk_alloc ?_ _)); exact BK120.out) hb); have n8_ := Aside0.mk (below_step (pY24) hb); clear HO106; clear HO109; clear HO112; clear HO116; clear HO119; clear BK101; clear BK120; clear HB; have HO106 := n0_; have HO109 := n1_; have HO112 := n2_; have HO116 := n3_; have HO119 := n4_; have HO123 := n5_; have BK101 := n6_; have BK120 := n7_; have HB := n8_; clear n0_ n1_ n2_ n3_ n4_ n5_ n6_ n7_ n8_; (try clear hb); (try clear hb2); (try clear hk); (try clear hi); (try clear ho0); have hcz121_0 : w120.cell? ⟨gb120, 0, none⟩ = some (.slice Ao116 t114.length co116) := (blk_cell BK120.out 0).trans rfl; have hcz121_1 : w120.cell? ⟨gb120, 1, none⟩ = some (.slice Ao119 t117.length co119) := (blk_cell BK120.out 1).trans rfl; have hfz121_0 := blk_frozen BK120.out 0; have hfz121_1 := blk_frozen BK120.out 1; obtain ⟨Ao122, co122, eo122⟩ := Kd.R_slice HO123.out; subst eo122) | ((with_reducible refine gate_callee (f := 33) rfl ?_); refine goesL_ (some 31) rfl rfl Try.func33 (by kernel_rfl) rfl #[.agg #[.slice Ao116 t114.length co116, .slice Ao119 t117.length co119], .slice Ao122 t121.length co122] rfl (pY27) ?_; (with_reducible refine (impl_ShareFits.calls k _ _ t114 _ _ t117 _ _ t121 t124 _ ?side1 ?side2 ?side3 ?side4 ?side5 ?side6 A18.out).mono ?_); (case side1 => exact pC (Kd.R_reads' HO116.out).2.2); (case side2 => exact (Kd.R_reads' HO116.out).2.1); (case side3 => exact pC (Kd.S_reads' HO119.out).2.2); (case side4 => exact (Kd.S_reads' HO119.out).2.1); (case side5 => exact pC (Kd.R_reads' HO123.out).2.2); (case side6 => exact (Kd.R_reads' HO123.out).2.1); rintro e w123 ⟨rfl, hb⟩; refine ⟨_, rfl, ?_⟩; have n0_ := Aside0.mk (Kd.R_below (pY32) hb); have n1_ := Aside0.mk (Kd.S_below (pY33) hb); have n2_ := Aside0.mk (Kd.R_below (pY34) hb); have n3_ := Aside0.mk (Kd.R_below (pY35) hb); have n4_ := Aside0.mk (Kd.S_below (pY36) hb); have n5_ := Aside0.mk (Kd.R_below (pY37) hb); have n6_ := Aside0.mk (blk_below (g := gb101) (o := .cells #[.slice A0_0 l0_0.length c0_0, .slice A0_1 l0_1.length c0_1] 26 (0, 0)) (pY29) hb); have n7_ := Aside0.mk (blk_below (g := gb120) (o := .cells #[.slice Ao116 t114.length co116, .slice Ao119 t117.length co119] 31 (0, 0)) (pY31) hb); have n8_ := Aside0.mk (below_step (pY24) hb); clear HO106; clear HO109; clear HO112; clear HO116; clear HO119; clear HO123; clear BK101; clear BK120; clear HB; have HO106 := n0_; have HO109 := n1_; have HO112 := n2_; have HO116 := n3_; have HO119 := n4_; have HO123 := n5_; have BK101 := n6_; have BK120 := n7_; have HB := n8_; clear n0_ n1_ n2_ n3_ n4_ n5_ n6_ n7_ n8_; (try clear hb); (try clear hb2); (try clear hk); (try clear hi)))
     have n0_ := Aside0.mk (Kd.R_drew HO106.out)
     have n1_ := Aside0.mk (Kd.S_drew HO109.out)
     have n2_ := Aside0.mk (Kd.R_drew HO112.out)
     have n3_ := Aside0.mk (Kd.R_drew HO116.out)
     have n4_ := Aside0.mk (Kd.S_drew HO119.out)
     have n5_ := Aside0.mk (Kd.R_drew HO123.out)
     have n6_ := Aside0.mk (blk_drew BK101.out)
     have n7_ := Aside0.mk (blk_drew BK120.out)
     have n8_ := Aside0.mk (below_drew1 HB.out)
     clear HO106
     clear HO109
     clear HO112
     clear HO116
     clear HO119
     clear HO123
     clear BK101
     clear BK120
     clear HB
     have HO106 := n0_
     have HO109 := n1_
     have HO112 := n2_
     have HO116 := n3_
     have HO119 := n4_
     have HO123 := n5_
     have BK101 := n6_
     have BK120 := n7_
     have HB := n8_
     clear n0_ n1_ n2_ n3_ n4_ n5_ n6_ n7_ n8_
     refine start_ (n := 5) (S := fun w' => w'.cell? ⟨gb120, 0, none⟩ = some (.slice Ao116 t114.length co116) ∧ w'.cell? ⟨gb120, 1, none⟩ = some (.slice Ao119 t117.length co119) ∧ w'.cell? ⟨gb101, 0, none⟩ = some (.slice A0_0 l0_0.length c0_0) ∧ w'.cell? ⟨gb101, 1, none⟩ = some (.slice A0_1 l0_1.length c0_1)) (ds := []) #[false, false, false, false, false] (by kernel_rfl) rfl rfl ⟨(blk_cell BK120.out 0).trans rfl, (blk_cell BK120.out 1).trans rfl, (blk_cell BK101.out 0).trans rfl, (blk_cell BK101.out 1).trans rfl⟩ (fun hHeld => ?_)
     generalize w123.drew = w124 at HO106 HO109 HO112 HO116 HO119 HO123 BK101 BK120 HB hHeld ⊢
     refine tK4_ (i := 0) (N := some 35) #[true, false, false, false, false] ?_
     refine tK4_ (i := 1) (N := some 36) #[true, true, false, false, false] ?_
     refine one_ (i := 2) (N := some 37) #[true, true, true, false, false] rfl rfl (by kernel_rfl) (by decide) (fun K hK => ?_)
     refine goes_ Try.func23 (by kernel_rfl) rfl #[.agg #[.slice A0_0 l0_0.length c0_0, .slice A0_1 l0_1.length c0_1]] (by rfl) rfl rfl (pY27) ?_
     with_reducible refine (laws_toShareBook.calls k _ _ l0_0 _ _ l0_1 t125 t128 _ ?side1 ?side2 ?side3 ?side4 A41.out).mono ?_
     (case side1 => exact pC (Kd.C_below HR0_0.out HB.out))
     (case side2 => exact HC0_0.out)
     (case side3 => exact pC (Kd.C_below HR0_1.out HB.out))
     (case side4 => exact HC0_1.out)
     rintro e w125 ⟨v126, v129, rfl, ho0, ho1, hb⟩
     refine ⟨_, rfl, ?_⟩
     have n0_ := Aside0.mk (Kd.R_elder' (pY32) (Kd.R_base ho0) hb)
     have n1_ := Aside0.mk (Kd.S_mono (Kd.S_told (Kd.S_told (Kd.S_old (pY33) hb) (Kd.R_base ho0)) (Kd.S_base ho1)) (fun _ h_ => h_.1))
     have n2_ := Aside0.mk (Kd.R_elder' (pY34) (Kd.R_base ho0) hb)
     have n3_ := Aside0.mk (Kd.R_elder' (pY35) (Kd.R_base ho0) hb)
     have n4_ := Aside0.mk (Kd.S_mono (Kd.S_told (Kd.S_told (Kd.S_old (pY36) hb) (Kd.R_base ho0)) (Kd.S_base ho1)) (fun _ h_ => h_.1))
     have n5_ := Aside0.mk (Kd.R_elder' (pY37) (Kd.R_base ho0) hb)
     have n6_ := Aside0.mk (Kd.R_lower (Kd.R_new' (Kd.R_new' (Kd.R_new' (Kd.R_new' ho0 (Kd.R_lt (pY32))) (Kd.R_lt (pY34))) (Kd.R_lt (pY35))) (Kd.R_lt (pY37))) (below_size (pY24)))
     have n7_ := Aside0.mk (Kd.S_lower (Kd.S_new' (Kd.S_new' (Kd.S_new' (Kd.S_new' (Kd.S_new' (Kd.S_new' ho1 (Kd.R_lt (pY32))) (Kd.S_lt (pY33))) (Kd.R_lt (pY34))) (Kd.R_lt (pY35))) (Kd.S_lt (pY36))) (Kd.R_lt (pY37))) (below_size (pY24)))
     have n8_ := Aside0.mk (blk_below (g := gb101) (o := .cells #[.slice A0_0 l0_0.length c0_0, .slice A0_1 l0_1.length c0_1] 26 (0, 0)) (pY29) hb)
     have n9_ := Aside0.mk (blk_below (g := gb120) (o := .cells #[.slice Ao116 t114.length co116, .slice Ao119 t117.length co119] 31 (0, 0)) (pY31) hb)
     have n10_ := Aside0.mk (below_step (pY24) hb)
     clear HO106
     clear HO109
     clear HO112
     clear HO116
     clear HO119
     clear HO123
     clear BK101
     clear BK120
     clear HB
     have HO106 := n0_
     have HO109 := n1_
     have HO112 := n2_
     have HO116 := n3_
     have HO119 := n4_
     have HO123 := n5_
     have HO127 := n6_
     have HO130 := n7_
     have BK101 := n8_
     have BK120 := n9_
     have HB := n10_
     clear n0_ n1_ n2_ n3_ n4_ n5_ n6_ n7_ n8_ n9_ n10_
     (try clear hb)
     (try clear hb2)
     (try clear hk)
     (try clear hi)
     (try clear ho0)
     (try clear ho1)
     obtain ⟨Ao126, co126, eo126⟩ := Kd.R_slice HO127.out
     (first | subst eo126 | (injection eo126 with f1_ f2_ f3_; have f4_ := f1_.symm; have f5_ := f3_.symm; clear f1_ f2_ f3_; subst f4_; subst f5_))
     obtain ⟨Ao127, co127, eo127⟩ := Kd.S_slice HO130.out
     (first | subst eo127 | (injection eo127 with f1_ f2_ f3_; have f4_ := f1_.symm; have f5_ := f3_.symm; clear f1_ f2_ f3_; subst f4_; subst f5_))
     refine hK.out _ _ ⟨(blk_cell BK120.out 0).trans rfl, (blk_cell BK120.out 1).trans rfl, (blk_cell BK101.out 0).trans rfl, (blk_cell BK101.out 1).trans rfl⟩ (fun hHeld => ?_)
     clear hK K
     refine norm_ (a' := ?_) ?_ ?_
     rotate_left
     ·show Act.put _ (some 37) _ = _
      simp only [pW]
      rfl
     refine one_ (i := 3) (N := some 38) #[true, true, true, true, false] rfl rfl (by kernel_rfl) (by decide) (fun K hK => ?_)
     refine goes_ Try.func25 (by kernel_rfl) rfl #[.agg #[.slice Ao116 t114.length co116, .slice Ao119 t117.length co119], .agg #[.slice Ao126 t125.length co126, .slice Ao127 t128.length co127]] (by rfl) rfl rfl (pY27) ?_
     with_reducible refine (laws_eqShareBook.calls k _ _ t114 _ _ t117 _ _ t125 _ _ t128 false _ ?side1 ?side2 ?side3 ?side4 ?side5 ?side6 ?side7 ?side8 A42.out).mono ?_
     (case side1 => exact pC (Kd.R_reads' HO116.out).2.2)
     (case side2 => exact (Kd.R_reads' HO116.out).2.1)
     (case side3 => exact pC (Kd.S_reads' HO119.out).2.2)
     (case side4 => exact (Kd.S_reads' HO119.out).2.1)
     (case side5 => exact pC (Kd.R_reads' HO127.out).2.2)
     (case side6 => exact (Kd.R_reads' HO127.out).2.1)
     (case side7 => exact pC (Kd.S_reads' HO130.out).2.2)
     (case side8 => exact (Kd.S_reads' HO130.out).2.1)
     rintro e w128 ⟨rfl, hb⟩
     refine ⟨_, rfl, ?_⟩
     have n0_ := Aside0.mk (Kd.R_below (pY32) hb)
     have n1_ := Aside0.mk (Kd.S_below (pY33) hb)
     have n2_ := Aside0.mk (Kd.R_below (pY34) hb)
     have n3_ := Aside0.mk (Kd.R_below (pY35) hb)
     have n4_ := Aside0.mk (Kd.S_below (pY36) hb)
     have n5_ := Aside0.mk (Kd.R_below (pY37) hb)
     have n6_ := Aside0.mk (Kd.R_below (by (with_reducible repeat (first | apply Kd.R_alloc | apply Kd.R_drewN | apply Kd.R_drew)); exact HO127.out) hb)
     have n7_ := Aside0.mk (Kd.S_below (by (with_reducible repeat (first | apply Kd.S_alloc | apply Kd.S_drewN | apply Kd.S_drew)); exact HO130.out) hb)
     have n8_ := Aside0.mk (blk_below (g := gb101) (o := .cells #[.slice A0_0 l0_0.length c0_0, .slice A0_1 l0_1.length c0_1] 26 (0, 0)) (pY29) hb)
     have n9_ := Aside0.mk (blk_below (g := gb120) (o := .cells #[.slice Ao116 t114.length co116, .slice Ao119 t117.length co119] 31 (0, 0)) (pY31) hb)
     have n10_ := Aside0.mk (below_step (pY24) hb)
     clear HO106
     clear HO109
     clear HO112
     clear HO116
     clear HO119
     clear HO123
     clear HO127
     clear HO130
     clear BK101
     clear BK120
     clear HB
     have HO106 := n0_
     have HO109 := n1_
     have HO112 := n2_
     have HO116 := n3_
     have HO119 := n4_
     have HO123 := n5_
     have HO127 := n6_
     have HO130 := n7_
     have BK101 := n8_
     have BK120 := n9_
     have HB := n10_
     clear n0_ n1_ n2_ n3_ n4_ n5_ n6_ n7_ n8_ n9_ n10_
     (try clear hb)
     (try clear hb2)
     (try clear hk)
     (try clear hi)
     refine hK.out _ _ ⟨(blk_cell BK120.out 0).trans rfl, (blk_cell BK120.out 1).trans rfl, (blk_cell BK101.out 0).trans rfl, (blk_cell BK101.out 1).trans rfl⟩ (fun hHeld => ?_)
     clear hK K
     refine norm_ (a' := ?_) ?_ ?_
     rotate_left
     ·show Act.put _ (some 38) _ = _
      simp only [pW]
      rfl
     refine pU0 (i := 4) (N := some 39) #[true, true, true, true, true] ?_
     refine done_ (by kernel_rfl) ?_
     try go_wp2
     go_ret
     exact ⟨by first | rfl | (simp [errW_none, errW_some] <;> rfl) | (simp [*, errW_none, errW_some] <;> rfl), pY24⟩
end Go.Proofs.Ytaofjgnhapnndaa.Q
namespace Go.Proofs.Ytaofjgnhapnndaa.Q
open Go.RowKit Go.Proofs.YtaofjgnhapnndaaW.PrintWords Go.Proofs.YtaofjgnhapnndaaW.PrintLast Go.Proofs.YtaofjgnhapnndaaW.PrintMore
set_option linter.unusedVariables false
set_option linter.unusedSimpArgs false
def atI (bs : List IB) (n : ByteArray) : Int := idxI (fun s => s.toList == n.toList) bs 0
theorem atI_lt {bs : List IB} {n : ByteArray} (h : ¬ atI bs n < 0) : ∃ a : Nat, atI bs n = (a : Int) ∧ a < bs.length ∧ (gB bs a).f0.toList = n.toList := by
  unfold atI idxI at h ⊢
  cases hf : findR (fun i => (gB bs i).f0.toList == n.toList) bs.length 0 with
  | none => rw [hf] at h; simp at h
  | some a =>
    obtain ⟨_, h2, h3⟩ := findR_lt hf
    exact ⟨a, rfl, h2, beq_iff_eq.mp h3⟩
theorem spec_l1At_ev (ts : List ByteArray) (bs : List IB) (n : ByteArray) (hl : bs.length ≤ 9223372036854775807) : Ev (fun k => spec_l1At.f k ts bs n) (atI bs n) := by
  unfold spec_l1At.f atI
  refine Ev.loop (f := fun k i => spec_l1At.l0 k n (i : Int) ts bs) (val := fun i => idxI (fun s => s.toList == n.toList) bs i) bs.length ?_ ?_ 0 (by omega)
  · simp only [idxI_end]
    exact Ev.step (fun k => spec_l1At.l0.eq_2 n _ ts bs k) (Ev.neg (by omega) (Ev.ret rfl))
  · intro i hi H
    simp only [idxI_step (fun s => s.toList == n.toList) hi]
    refine Ev.step (fun k => spec_l1At.l0.eq_2 n _ ts bs k) (Ev.pos (by omega) (Ev.pos (by omega) ?_))
    rw [rdB_cast, wrap_up hi hl]
    refine Ev.prop (fun h => Ev.ret (by rw [if_pos (beq_iff_eq.mpr h)])) (fun h => Ev.sub H (by rw [if_neg (fun e => h (beq_iff_eq.mp e))]))
def fitP (bs : List IB) (order : List ByteArray) (i : Nat) : Bool :=
  !decide (atI bs (gS order i) < 0) && (!hasS (order.take i) (gS order i) && canB bs (atI bs (gS order i)).toNat (order.take i))
def fitsB (ts : List ByteArray) (bs : List IB) (order : List ByteArray) : Bool := bookB ts bs && (decide (order.length = bs.length) && allR (fitP bs order) order.length 0)
theorem spec_ShareFits_ev (ts : List ByteArray) (bs : List IB) (order : List ByteArray) (ht : ts.length ≤ 9223372036854775807) (hl : bs.length ≤ 9223372036854775807) (hb : Bok bs) (ho : order.length ≤ 9223372036854775807) : Ev (fun k => spec_ShareFits.f k ts bs order) (fitsB ts bs order) := by
  unfold spec_ShareFits.f fitsB
  have loop : Ev (fun k => spec_ShareFits.l0 k order ((0 : Nat) : Int) ts bs) (allR (fitP bs order) order.length 0) := by
    refine Ev.loop (f := fun k i => spec_ShareFits.l0 k order (i : Int) ts bs) (val := allR (fitP bs order) order.length) order.length ?_ ?_ 0 (by omega)
    · rw [allR_end]
      exact Ev.step (fun k => spec_ShareFits.l0.eq_2 order _ ts bs k) (Ev.neg (by omega) (Ev.ret rfl))
    · intro i hi H
      rw [allR_step _ hi]
      refine Ev.step (fun k => spec_ShareFits.l0.eq_2 order _ ts bs k) (Ev.pos (by omega) (Ev.pos (by omega) ?_))
      rw [rdS_cast, wrap_up hi ho, Int.toNat_natCast]
      refine Ev.bind (spec_l1At_ev ts bs _ hl) (Ev.prop (fun h => Ev.ret (by simp [fitP, h])) (fun h => Ev.pos (by omega) ?_))
      obtain ⟨a, ha, hlt, _⟩ := atI_lt h
      refine Ev.bind (spec_l1Has_ev _ _ (by simp; omega)) (Ev.test _ (fun h1 => Ev.ret (by simp [fitP, h1])) (fun h1 => ?_))
      rw [ha]
      refine Ev.bind (spec_l2Can_ev ts bs a _ hl hb hlt (by simp; omega)) ?_
      have e : fitP bs order i = canB bs a (order.take i) := by simp [fitP, h1, ha]
      rw [e]
      refine Ev.test _ (fun h2 => Ev.sub H (by rw [h2]; rfl)) (fun h2 => Ev.ret (by rw [h2]; rfl))
  have j0 : ∀ b, Ev (fun k => spec_ShareFits.j0 k order b ts bs) (!b && allR (fitP bs order) order.length 0) := fun b =>
    Ev.step (fun k => spec_ShareFits.j0.eq_2 order _ ts bs k) (Ev.test _ (fun h => Ev.ret (by rw [h]; rfl)) (fun h => Ev.sub loop (by rw [h]; rfl)))
  refine Ev.bind (spec_ShareBookOk_ev ts bs ht hl hb) (Ev.test _ (fun h => Ev.sub (j0 _) ?_) (fun h => Ev.sub (j0 _) (by simp [h])))
  rw [h, show (!((order.length : Int) != (bs.length : Int))) = decide (order.length = bs.length) from by rw [Bool.eq_iff_iff]; simp; omega]
  rfl
theorem impl_ShareFits_ev (ts : List ByteArray) (bs : List IB) (order : List ByteArray) (ht : ts.length ≤ 9223372036854775807) (hl : bs.length ≤ 9223372036854775807) (hb : Bok bs) (ho : order.length ≤ 9223372036854775807) : Ev (fun k => impl_ShareFits.f k ts bs order) (fitsB ts bs order) := by
  unfold impl_ShareFits.f fitsB
  have loop : Ev (fun k => impl_ShareFits.l0 k order order (order.length : Int) ((0 : Nat) : Int) ts bs) (allR (fitP bs order) order.length 0) := by
    refine Ev.loop (f := fun k i => impl_ShareFits.l0 k order order (order.length : Int) (i : Int) ts bs) (val := allR (fitP bs order) order.length) order.length ?_ ?_ 0 (by omega)
    · rw [allR_end]
      exact Ev.step (fun k => impl_ShareFits.l0.eq_2 order order _ _ ts bs k) (Ev.neg (by omega) (Ev.ret rfl))
    · intro i hi H
      rw [allR_step _ hi]
      refine Ev.step (fun k => impl_ShareFits.l0.eq_2 order order _ _ ts bs k) (Ev.pos (by omega) (Ev.pos (by omega) (Ev.pos (by omega) ?_)))
      rw [rdS_cast, wrap_up hi ho, Int.toNat_natCast]
      simp only [impl_ShareBook_at.f, Option.bind_some]
      refine Ev.prop (fun h => Ev.ret (by simp [fitP, show atI bs (gS order i) < 0 from h])) (fun h => Ev.pos (by omega) ?_)
      obtain ⟨a, ha, hlt, _⟩ := atI_lt h
      refine Ev.bind (contains_ev _ _ (by simp; omega)) (Ev.test _ (fun h1 => Ev.ret (by simp [fitP, h1])) (fun h1 => ?_))
      rw [show idxI (fun s => s.toList == (gS order i).toList) bs 0 = (a : Int) from ha]
      refine Ev.bind (impl_can_ev ts bs a _ hl hlt (by simp; omega)) ?_
      have e : fitP bs order i = canB bs a (order.take i) := by simp [fitP, h1, ha]
      rw [e]
      refine Ev.test _ (fun h2 => Ev.sub H (by rw [h2]; rfl)) (fun h2 => Ev.ret (by rw [h2]; rfl))
  have j0 : ∀ b, Ev (fun k => impl_ShareFits.j0 k order b ts bs) (!b && allR (fitP bs order) order.length 0) := fun b =>
    Ev.step (fun k => impl_ShareFits.j0.eq_2 order _ ts bs k) (Ev.test _ (fun h => Ev.ret (by rw [h]; rfl)) (fun h => Ev.sub loop (by rw [h]; rfl)))
  refine Ev.bind (impl_ShareBookOk_ev ts bs ht hl hb) (Ev.test _ (fun h => Ev.sub (j0 _) ?_) (fun h => Ev.sub (j0 _) (by simp [h])))
  rw [h, show (!((order.length : Int) != (bs.length : Int))) = decide (order.length = bs.length) from by rw [Bool.eq_iff_iff]; simp; omega]
  rfl
end Go.Proofs.Ytaofjgnhapnndaa.Q
namespace Go.Proofs.Ytaofjgnhapnndaa.Q
open Go.RowKit Go.Proofs.YtaofjgnhapnndaaW.PrintWords Go.Proofs.YtaofjgnhapnndaaW.PrintLast Go.Proofs.YtaofjgnhapnndaaW.PrintMore
set_option linter.unusedVariables false
set_option linter.unusedSimpArgs false
theorem len_of_wS {l : List ByteArray} {n : Nat} (h : wS l ≤ n) : l.length ≤ n := by unfold wS at h; omega
theorem le_sum_map {α : Type} (f : α → Nat) : ∀ {l : List α} {x : α}, x ∈ l → f x ≤ (l.map f).sum
  | a :: l, x, h => by
    rw [List.map_cons, List.sum_cons]
    rcases List.mem_cons.1 h with rfl | h
    · omega
    · have := le_sum_map f h; omega
theorem size_of_wS {l : List ByteArray} {n : Nat} (h : wS l ≤ n) : ∀ s ∈ l, s.size ≤ n := fun s hs => by
  have := le_sum_map ByteArray.size hs
  unfold wS sumS at h
  omega
structure Sm (n : Nat) (ts : List ByteArray) (bs : List LB) : Prop where
  lt : ts.length ≤ n
  lb : bs.length ≤ n
  b1 : ∀ b ∈ bs, b.f1.length ≤ n
  b2 : ∀ b ∈ bs, b.f2.length ≤ n
  s0 : ∀ s ∈ ts, s.size ≤ n
  s1 : ∀ b ∈ bs, b.f0.size ≤ n
  s2 : ∀ b ∈ bs, ∀ s ∈ b.f1, s.size ≤ n
  s3 : ∀ b ∈ bs, ∀ s ∈ b.f2, s.size ≤ n
theorem Sm.of {n : Nat} {ts : List ByteArray} {bs : List LB} (h : wBook ts bs ≤ n) : Sm n ts bs := by
  have hw : ∀ b ∈ bs, wL b ≤ n := fun b hb => by
    have := le_sum_map wL hb
    unfold wBook sumL at h
    omega
  refine ⟨len_of_wS (by unfold wBook at h; omega), by unfold wBook at h; omega, fun b hb => ?_, fun b hb => ?_, size_of_wS (by unfold wBook at h; omega), fun b hb => ?_, fun b hb => ?_, fun b hb => ?_⟩
  · have := hw b hb; unfold wL at this; exact len_of_wS (by omega)
  · have := hw b hb; unfold wL at this; exact len_of_wS (by omega)
  · have := hw b hb; unfold wL at this; omega
  · have := hw b hb; unfold wL at this; exact size_of_wS (by omega)
  · have := hw b hb; unfold wL at this; exact size_of_wS (by omega)
theorem Sm.bok {n : Nat} {ts : List ByteArray} {bs : List LB} (h : Sm n ts bs) (hn : n ≤ 9223372036854775807) : Bok (bs.map toB) := fun b hb => by
  obtain ⟨c, hc, rfl⟩ := List.mem_map.1 hb
  exact ⟨Nat.le_trans (h.b1 c hc) hn, Nat.le_trans (h.b2 c hc) hn⟩
theorem counted {ts : List ByteArray} {bs : List LB} (hi : Inok ts bs) {f : Nat → Int → Option Bool}
    (h : ∀ a, a = 1048576 - (wBook ts bs : Int) → 0 ≤ a → Sm 1048576 ts bs → Ev (fun k => f k a) true) :
    Ev (fun k => (laws_szShareBook.f k ts bs 1048576).bind fun t => if t < 0 then some true else f k t) true := by
  refine Ev.bind (szShareBook_ev ts bs 1048576 hi (by omega) (by omega)) ?_
  refine Ev.prop (fun _ => Ev.ret rfl) (fun h2 => ?_)
  obtain ⟨h3, h4⟩ := left_pos h2
  exact h _ h4 (by omega) (Sm.of (by omega))
theorem Sm.to_ev {ts : List ByteArray} {bs : List LB} (h : Sm 1048576 ts bs) : Ev (fun k => laws_toShareBook.f k ts bs) (ts, bs.map toB) :=
  toShareBook_ev ts bs (by have := h.lt; omega) (by have := h.lb; omega) (fun b hb => ⟨by have := h.b1 b hb; omega, by have := h.b2 b hb; omega⟩)
theorem Sm.eq_ev {ts : List ByteArray} {bs : List LB} (h : Sm 1048576 ts bs) : Ev (fun k => laws_eqShareBook.f k ts (bs.map toB) ts (bs.map toB)) true :=
  eqShareBook_ev ts _ (by have := h.lt; omega) (by have := h.lb; simp; omega) (h.bok (by omega))
theorem unturned {ts : List ByteArray} {bs : List LB} (h : Sm 1048576 ts bs) {f : Nat → Option Bool} (hf : Ev f true) :
    Ev (fun k => (laws_toShareBook.f k ts bs).bind fun b => (laws_eqShareBook.f k ts (bs.map toB) b.1 b.2).bind fun t => if t = true then f k else some false) true :=
  Ev.bind h.to_ev (Ev.bind h.eq_ev (Ev.pos rfl hf))
theorem Sm.ts' {ts : List ByteArray} {bs : List LB} (h : Sm 1048576 ts bs) : ts.length ≤ 9223372036854775807 := by have := h.lt; omega
theorem Sm.bs' {ts : List ByteArray} {bs : List LB} (h : Sm 1048576 ts bs) : (bs.map toB).length ≤ 9223372036854775807 := by have := h.lb; rw [List.length_map]; omega
theorem Sm.bok' {ts : List ByteArray} {bs : List LB} (h : Sm 1048576 ts bs) : Bok (bs.map toB) := h.bok (by omega)
theorem countedS {l : List ByteArray} {a : Int} (hl : l.length ≤ 9223372036854775807 ∧ ∀ s ∈ l, s.size ≤ 9223372036854775807) (h0 : 0 ≤ a) (h1 : a ≤ 1048576) {f : Nat → Int → Option Bool}
    (h : ∀ a2, 0 ≤ a2 → l.length ≤ 1048576 → (∀ s ∈ l, s.size ≤ 1048576) → Ev (fun k => f k a2) true) :
    Ev (fun k => (laws_szStringS.f k l a).bind fun t => if t < 0 then some true else f k t) true := by
  refine Ev.bind (szStringS_ev l a hl.1 hl.2 h0 (by omega)) ?_
  refine Ev.prop (fun _ => Ev.ret rfl) (fun h2 => ?_)
  obtain ⟨h3, h4⟩ := left_pos h2
  have hw : wS l ≤ 1048576 := by omega
  exact h _ (by omega) (len_of_wS hw) (size_of_wS hw)
end Go.Proofs.Ytaofjgnhapnndaa.Q
namespace Go.Proofs.Ytaofjgnhapnndaa.Q
open Go.RowKit Go.Proofs.YtaofjgnhapnndaaW.PrintWords Go.Proofs.YtaofjgnhapnndaaW.PrintLast Go.Proofs.YtaofjgnhapnndaaW.PrintMore
set_option linter.unusedVariables false
set_option linter.unusedSimpArgs false
theorem FnExactShareFits_pure (ts : List ByteArray) (bs : List LB) (order : List ByteArray) (hi : Inok ts bs) (ho : order.length ≤ 9223372036854775807 ∧ ∀ s ∈ order, s.size ≤ 9223372036854775807) : ∃ k, laws_FnExactShareFits.f k ts bs order = some true := by
  refine Ev.rounds (g := fun k => laws_FnExactShareFits.f k ts bs order) ?_
  unfold laws_FnExactShareFits.f
  refine counted hi fun a ha h0 h => ?_
  refine countedS ho h0 (by omega) fun a2 h2 h3 hs => ?_
  have ho' : order.length ≤ 9223372036854775807 := ho.1
  have hS := toStringS_ev order (by omega)
  refine Ev.bind h.to_ev (Ev.bind hS (Ev.bind (spec_ShareFits_ev _ _ order h.ts' h.bs' h.bok' ho') (Ev.bind h.to_ev (Ev.bind hS (Ev.bind (impl_ShareFits_ev _ _ order h.ts' h.bs' h.bok' ho') ?_)))))
  exact Ev.neg (by simp) (unturned h (Ev.bind hS (Ev.bind (eqStringS_ev order ho') (Ev.pos rfl (Ev.ret rfl)))))
end Go.Proofs.Ytaofjgnhapnndaa.Q
