/- Texts that the row needs: words on memory and rows, the contracts of the functions it reaches, and the plain lemmas on what they compute. -/
import Derived.Below
import Derived.Deep.Draws
import Derived.Deep.AppendLies
import Derived.Maps.AppendAt
import Derived.OwnWalk
import Derived.Laws.BytesArg
import Derived.Laws.MakeOwn
import Derived.Laws.OwnMore
import Derived.Deep.OwnRows
import Derived.Tactics
import Derived.Lib.ConvBytes
import Derived.Laws.Slices
import Derived.WalkKit
import Derived.KernelRfl
import Derived.RowKit3
import Derived.Deep.LoopGhost
import Derived.Deep.QuietTactic
import Derived.BigQuiet
import Derived.WideLaws
import Derived.Deep.DeepCutAuto
import Derived.Deep.CutBlock
import Derived.Deep.RegionHeld3
import Derived.Laws.Rows
import Derived.Lib.AppendStr
import Derived.ArgAppend
import Derived.Laws.IdiomCopy
import Derived.RowKit
import Derived.OrdersHeld
import Derived.Laws.BitsLemmas
import Derived.Laws.StructEq
import Derived.Test.YtaofjgnhapnndaaProg
import Derived.WalkLawsBesides
import Derived.Lib.SliceRun
import Derived.Test.YtaofjgnhapnndaaRows
import Derived.ProofKit
import Derived.Shelf.GgSortFunc.SmallK
import Derived.Ground.GgsProg
import Derived.Shelf.GgSortFunc.Tiny
import Derived.Shelf.Abstract
import Derived.Test.YtaofjgnhapnndaaXGaa
import Derived.Test.YtaofjgnhapnndaaXGab
import Derived.Test.YtaofjgnhapnndaaXGac
import Derived.Test.YtaofjgnhapnndaaXGad
import Derived.Test.YtaofjgnhapnndaaXGae
import Derived.Test.YtaofjgnhapnndaaXGaf
import Derived.Test.YtaofjgnhapnndaaXGag
import Derived.Test.YtaofjgnhapnndaaXGah
import Derived.Test.YtaofjgnhapnndaaXGai
import Derived.Test.YtaofjgnhapnndaaXGaj
import Derived.Test.YtaofjgnhapnndaaXGak
open Go.Proofs.YtaofjgnhapnndaaFG
namespace Go.Proofs.Ytaofjgnhapnndaa.Q
open Go.RowKit Go.Proofs.YtaofjgnhapnndaaW.PrintWords Go.Proofs.YtaofjgnhapnndaaW.PrintLast Go.Proofs.YtaofjgnhapnndaaW.PrintMore
set_option linter.unusedVariables false
set_option linter.unusedSimpArgs false
theorem C_none {α : Type} {d : Kd α} {w : World} {l : List α} (h : d.C w none l.length l) : l = [] := by
 cases l with
 | nil => rfl
 | cons a l =>
  obtain ⟨ad, he, _⟩ := h.2.2 (by simp)
  cases he
def slices_Clone_string_string.f (l0 : List ByteArray) : Option (List ByteArray) := if l0.length < 8796093022208 then some l0 else none
set_option maxHeartbeats 2000000 in
set_option maxRecDepth 100000 in
theorem slices_Clone_string_string.calls (A0 : Option Addr) (c0 : Nat) (l0 : List ByteArray) (r : List ByteArray) (w : World) (hr0 : Kd.C Kd.string w A0 l0.length l0) (hc0 : l0.length ≤ c0) (h : slices_Clone_string_string.f l0 = some r) :
  Calls Try.prog 94 #[.slice A0 l0.length c0] w fun e w' => ∃ v0_ : Value, e = .returned (v0_) ∧ Kd.R Kd.string 9 w' w.heap.size (fun _ => True) v0_ r ∧ Below w.heap.size w w' := by
 unfold slices_Clone_string_string.f at h
 by_cases c2 : l0.length < 8796093022208
 ·rw [if_pos c2] at h
  obtain rfl := Option.some.inj h
  clear h
  have LM := Aside0.mk c2
  clear c2
  have hnil := fun (W : World) (a : Option Addr) (n c : Nat) => Lib.run_eql_slice_nil (P := Try.prog) W 23 9 a n c 0 0 Try.underlying23
  cases A0 with
  | none =>
   obtain rfl := C_none hr0
   clear hr0 hc0
   go_enter Try.func94, Try.ntmps94
   go_wp2
   go_ret
   exact ⟨_, rfl, Kd.R_nil _ _ _ _ _, Below.refl _ _⟩
  | some a0 =>
   have HR0 := Aside0.mk hr0
   have HC0 := Aside0.mk hc0
   clear hr0 hc0
   have HB := Aside0.mk (Below.refl w.heap.size w)
   go_enter Try.func94, Try.ntmps94
   go_wp2_with (first
    | ((with_reducible refine gate_dst (N := 5) rfl ?_); refine Kd.R_lit Kd.string _ 9 ?hg (N := 5) ?hd (xs := ([] : List ByteArray)) (inner := []) (ok := fun _ => True) (okp := fun _ => True) ?hr ?hp (fun _ hk => hk) trivial (Below.refl _ _) (Nat.le_refl _) (by simp) ?_; (case hd => rfl); (case hg => rfl); (case hr => first | (go_simp; done) | (go_simp; rfl)); (case hp => exact (Reps.none _ _)); intro v102 w3 ho4 hb hg_ hnew_; clear hg_ hnew_; have n0_ := Aside0.mk (Kd.R_lower ho4 (below_size (pY37))); have n1_ := Aside0.mk (below_step (pY37) hb); clear HB; have HO103 := n0_; have HB := n1_; clear n0_ n1_; clear hb ho4)
    | ((with_reducible refine gate_builtin (b := .append) (xs := #[.tmp 5, .tmp 6]) rfl ?_); at_builtin; refine Kd.R_append_rows Kd.string (w0 := w) w.heap.size rfl (.tmp 5) (.tmp 6) 23 9 (.string ⟨#[]⟩) 16 rfl Try.underlying23 info9 rfl (by decide) (by omega) v102 [] l0 _ _ _ (fun _ => True) (fun _ => False) rfl rfl ?aO ?aR (fun _ _ h => h) (fun _ h => h.elim) ?aF ?aB ?aS ?aL ?_; (case aR => repeat (first | exact (Kd.C_below HR0.1 HB.1) | (with_reducible refine Kd.C_alloc ?_ _) | (with_reducible refine Kd.C_drewN ?_ _) | (with_reducible refine Kd.C_drew ?_))); (case aB => exact (pY37)); (case aF => exact (fun _ _ => trivial)); (case aO => exact (by (with_reducible repeat (first | apply Kd.R_alloc | apply Kd.R_drewN | apply Kd.R_drew)); exact HO103.1)); (case aS => exact (below_size (pY37))); (case aL => have := LM.out; simp; omega); intro v105 w5 ho hb hg hat; have n0_ := Aside0.mk (hb); have n1_ := Aside0.mk (ho); clear HB; clear HO103; have HB := n0_; have HO106 := n1_; clear n0_ n1_; clear ho hb hg hat))
   go_ret
   exact ⟨_, by first | rfl | (simp; done) | (simp [*]; done), by (with_reducible repeat (first | apply Kd.R_alloc | apply Kd.R_drewN | apply Kd.R_drew)); exact HO106.1, pY37⟩
 ·rw [if_neg c2] at h
  exact absurd h (by simp)
end Go.Proofs.Ytaofjgnhapnndaa.Q
namespace Go.Proofs.Ytaofjgnhapnndaa.Q
open Go.RowKit Go.Proofs.YtaofjgnhapnndaaW.PrintWords Go.Proofs.YtaofjgnhapnndaaW.PrintLast Go.Proofs.YtaofjgnhapnndaaW.PrintMore
set_option linter.unusedVariables false
set_option linter.unusedSimpArgs false
def impl_copyBook.l0 : Nat → List (S56) → Int → Int → List ByteArray → List (S56) → Option (List ByteArray × (List (S56)))
 | 0, _, _, _, _, _ => none
 | k + 1, x11, x12, x13, x107000, x107001 => if x13 < x12 then (if 0 ≤ x13 then (if x13 < (x11.length : Int) then ((slices_Clone_string_string.f ((rd_T56 x11 x13).f1)).bind fun t109 => ((slices_Clone_string_string.f ((rd_T56 x11 x13).f2)).bind fun t112 => (if x107001.length < 2199023255552 then (impl_copyBook.l0 k x11 x12 (wrap64 (x13 + 1)) x107000 (x107001 ++ [(⟨(rd_T56 x11 x13).f0, t109, t112⟩ : S56)])) else (none)))) else (none)) else (none)) else (some (x107000, x107001))
def impl_copyBook.f (k : Nat) (l0_0 : List ByteArray) (l0_1 : List (S56)) : Option (List ByteArray × (List (S56))) := (slices_Clone_string_string.f l0_0).bind fun t103 => (impl_copyBook.l0 k l0_1 (l0_1.length : Int) 0 t103 ([] : List (S56)))
def impl_copyBook.T5 : Bool × List (List Nat × List Nat) := (true, [([], []), ([0], [0]), ([], []), ([2], [2]), ([], []), ([4], [4]), ([5], [5]), ([], []), ([7], [7]), ([8, 6], [8]), ([3, 6, 9], [3, 6, 9]), ([10], [10]), ([1, 11, 9], [1, 11]), ([0, 1, 2, 3, 4, 5, 6, 7, 8, 9, 10, 11, 12], []), ([13, 12, 12, 0, 1, 2, 3, 4, 5, 6, 7, 8, 9, 10, 11, 12], [12, 13])])
def impl_copyBook.B5 : List Nat := [0, 1, 0, 4, 0, 16, 48, 0, 128, 496, 1020, 2044, 4095, 8191, 16383]
theorem impl_copyBook.tab5 : rtab .any (opsOf Try.f90 5) = impl_copyBook.T5 := by kernel_rfl
theorem impl_copyBook.bits5 : waitsOk impl_copyBook.T5.2 impl_copyBook.B5 = true := by kernel_rfl
set_option maxHeartbeats 8000000 in
set_option maxRecDepth 100000 in
theorem impl_copyBook.calls (k : Nat) (A0_0 : Option Addr) (c0_0 : Nat) (l0_0 : List ByteArray) (A0_1 : Option Addr) (c0_1 : Nat) (l0_1 : List (S56)) (r1 : List ByteArray) (r2 : List (S56)) (w : World) (hr0_0 : Kd.C Kd.string w A0_0 l0_0.length l0_0) (hc0_0 : l0_0.length ≤ c0_0) (hr0_1 : Kd.C k56 w A0_1 l0_1.length l0_1) (hc0_1 : l0_1.length ≤ c0_1) (h : impl_copyBook.f k l0_0 l0_1 = some (r1, r2)) :
  Calls Try.prog 90 #[.agg #[.slice A0_0 l0_0.length c0_0, .slice A0_1 l0_1.length c0_1]] w fun e w' => ∃ v0_ v1_ : Value, e = .returned (.agg #[v0_, v1_]) ∧ Kd.R Kd.string 9 w' w.heap.size (fun _ => True) v0_ r1 ∧ Kd.S k56 56 w' w.heap.size (fun k_ => some k_ ≠ (v0_ : Value).ownBlock) v1_ r2 ∧ Below w.heap.size w w' := by
 have hu31 := Try.underlying31
 have hu56 := Try.underlying56
 have HR0_0 := Aside0.mk hr0_0
 have HC0_0 := Aside0.mk hc0_0
 clear hr0_0 hc0_0
 have HR0_1 := Aside0.mk hr0_1
 have HC0_1 := Aside0.mk hc0_1
 clear hr0_1 hc0_1
 have HB := Aside0.mk (Below.refl w.heap.size w)
 have H : ((slices_Clone_string_string.f l0_0).bind fun t103 => (impl_copyBook.l0 k l0_1 (l0_1.length : Int) 0 t103 ([] : List (S56)))) = some (r1, r2) := h
 clear h
 replace H := Option.bind_eq_some_iff.mp H
 obtain ⟨t103, A20, H⟩ := H
 replace H : (impl_copyBook.l0 k l0_1 (l0_1.length : Int) 0 t103 ([] : List (S56))) = some (r1, r2) := H
 have A2 := Aside0.mk A20
 clear A20
 have H' := Aside0.mk H
 clear H
 go_enter Try.func90, Try.ntmps90
 go_wp2_with (first | ((with_reducible refine gate_dst (N := 1) rfl ?_); refine box_event ?hg (N := 1) ?hd (cs := #[.slice A0_0 l0_0.length c0_0, .slice A0_1 l0_1.length c0_1]) (t := 31) ?hr ?_; (case hd => rfl); (case hg => rfl); (case hr => first | (go_simp; done) | (go_simp; rfl)); intro gb101 hg w3 hbox hb; have n0_ := Aside0.mk (below_step (pY37) hb); have n1_ := Aside0.mk (hbox); have n2_ := Aside0.mk ((pY34 : w.heap.size ≤ gb101)); have n3_ := Aside0.mk ((pY34 : w.heap.size ≤ gb101)); clear HB; have HB := n0_; have BK101 := n1_; have GW101 := n2_; have GE101 := n3_; clear n0_ n1_ n2_ n3_; clear hb hbox hg) | ((with_reducible refine gate_dst (N := 2) rfl ?_); refine box_event ?hg (N := 2) ?hd (cs := #[.slice none 0 0, .slice none 0 0]) (t := 31) ?hr ?_; (case hd => rfl); (case hg => rfl); (case hr => first | (go_simp; done) | (go_simp; rfl)); intro gb102 hg w4 hbox hb; have n0_ := Aside0.mk (blk_below (g := gb101) (o := .cells #[.slice A0_0 l0_0.length c0_0, .slice A0_1 l0_1.length c0_1] 31 (0, 0)) (pY38) hb); have n1_ := Aside0.mk (below_step (pY35) hb); have n2_ := Aside0.mk (hbox); have n3_ := Aside0.mk ((pY27 : w.heap.size ≤ gb102)); have n4_ := Aside0.mk ((pY27 : w.heap.size ≤ gb102)); have n5_ := Aside0.mk ((pY15 : gb101 ≠ gb102)); have n6_ := Aside0.mk ((pY16 : gb102 ≠ gb101)); clear BK101; clear HB; have BK101 := n0_; have HB := n1_; have BK102 := n2_; have GW102 := n3_; have GE102 := n4_; have NB101_102 := n5_; have NB102_101 := n6_; clear n0_ n1_ n2_ n3_ n4_ n5_ n6_; clear hb hbox hg; have hnb5 := NB101_102.1; have hnc5 := NB102_101.1; have hcz6_0 : w4.cell? ⟨gb101, 0, none⟩ = some (.slice A0_0 l0_0.length c0_0) := (blk_cell BK101.1 0).trans rfl; have hcz6_1 : w4.cell? ⟨gb101, 1, none⟩ = some (.slice A0_1 l0_1.length c0_1) := (blk_cell BK101.1 1).trans rfl; have hfz6_0 := blk_frozen BK101.1 0; have hfz6_1 := blk_frozen BK101.1 1) | ((with_reducible refine gate_callee (f := 94) rfl ?_); refine goesL_ (some 8) rfl rfl Try.func94 (by kernel_rfl) rfl #[.slice A0_0 l0_0.length c0_0] rfl (pY36) ?_; (with_reducible refine (slices_Clone_string_string.calls _ _ l0_0 t103 _ ?side1 ?side2 A2.out).mono ?_); (case side1 => exact pC (Kd.C_below HR0_0.1 HB.1)); (case side2 => exact HC0_0.1); rintro e w7 ⟨v104, rfl, ho0, hb⟩; refine ⟨_, rfl, ?_⟩; have n0_ := Aside0.mk (Kd.R_lower ho0 (below_size (pY28))); have n1_ := Aside0.mk (blk_below (g := gb101) (o := .cells #[.slice A0_0 l0_0.length c0_0, .slice A0_1 l0_1.length c0_1] 31 (0, 0)) (pY38) hb); have n2_ := Aside0.mk (blk_below (g := gb102) (o := .cells #[.slice none 0 0, .slice none 0 0] 31 (0, 0)) (pY39) hb); have n3_ := Aside0.mk (below_step (pY28) hb); clear BK101; clear BK102; clear HB; have HO105 := n0_; have BK101 := n1_; have BK102 := n2_; have HB := n3_; clear n0_ n1_ n2_ n3_; (try clear hb); (try clear hb2); (try clear hk); (try clear hi); (try clear ho0); obtain ⟨Ao8, co8, eo8⟩ := Kd.R_slice HO105.1; subst eo8) | ((with_reducible refine gate_dst (N := 3) rfl ?_); refine box_event ?hg (N := 3) ?hd (cs := #[.slice none 0 0, .slice none 0 0]) (t := 31) ?hr ?_; (case hd => rfl); (case hg => rfl); (case hr => first | (go_simp; done) | (go_simp; rfl)); intro gb106 hg w9 hbox hb; have n0_ := Aside0.mk (Kd.R_below (by (with_reducible repeat (first | apply Kd.R_alloc | apply Kd.R_drewN | apply Kd.R_drew)); exact HO105.1) hb); have n1_ := Aside0.mk (blk_below (g := gb101) (o := .cells #[.slice A0_0 l0_0.length c0_0, .slice A0_1 l0_1.length c0_1] 31 (0, 0)) (pY38) hb); have n2_ := Aside0.mk (blk_below (g := gb102) (o := .cells #[.slice none 0 0, .slice none 0 0] 31 (0, 0)) (pY39) hb); have n3_ := Aside0.mk (below_step (pY28) hb); have n4_ := Aside0.mk (hbox); have n5_ := Aside0.mk ((pY21 : w.heap.size ≤ gb106)); have n6_ := Aside0.mk ((pY21 : w.heap.size ≤ gb106)); have n7_ := Aside0.mk ((pY15 : gb101 ≠ gb106)); have n8_ := Aside0.mk ((pY16 : gb106 ≠ gb101)); have n9_ := Aside0.mk ((pY19 : gb102 ≠ gb106)); have n10_ := Aside0.mk ((pY20 : gb106 ≠ gb102)); clear HO105; clear BK101; clear BK102; clear HB; have HO105 := n0_; have BK101 := n1_; have BK102 := n2_; have HB := n3_; have BK106 := n4_; have GW106 := n5_; have GE106 := n6_; have NB101_106 := n7_; have NB106_101 := n8_; have NB102_106 := n9_; have NB106_102 := n10_; clear n0_ n1_ n2_ n3_ n4_ n5_ n6_ n7_ n8_ n9_ n10_; clear hb hbox hg; have hnb10 := NB106_101.1; have hnc10 := NB101_106.1; have hnb11 := NB106_102.1; have hnc11 := NB102_106.1; have hcz12_0 : w9.cell? ⟨gb106, 0, none⟩ = some (.slice none 0 0) := (blk_cell BK106.1 0).trans rfl; have hcz12_1 : w9.cell? ⟨gb106, 1, none⟩ = some (.slice none 0 0) := (blk_cell BK106.1 1).trans rfl; have hfz12_0 := blk_frozen BK106.1 0; have hfz12_1 := blk_frozen BK106.1 1; have hcz13_0 : w9.cell? ⟨gb101, 0, none⟩ = some (.slice A0_0 l0_0.length c0_0) := (blk_cell BK101.1 0).trans rfl; have hcz13_1 : w9.cell? ⟨gb101, 1, none⟩ = some (.slice A0_1 l0_1.length c0_1) := (blk_cell BK101.1 1).trans rfl; have hfz13_0 := blk_frozen BK101.1 0; have hfz13_1 := blk_frozen BK101.1 1))
 go_loopg [13] k (fun kq v13 w' => ∃ (x13_1 : Int) (x107001_1 : List (S56)) (u107001 : Value), v13 = .int .i64 x13_1 ∧ Aside0 (impl_copyBook.l0 kq l0_1 (l0_1.length : Int) x13_1 t103 x107001_1 = some (r1, r2)) ∧ Aside0 (kq ≤ k) ∧ Aside0 (Kd.R Kd.string 9 w' w.heap.size (fun _ => True) (.slice Ao8 t103.length co8) t103) ∧ Aside0 (Kd.S k56 56 w' w.heap.size (fun k_ => some k_ ≠ ((.slice Ao8 t103.length co8) : Value).ownBlock) u107001 x107001_1) ∧ Aside0 (w'.heap[gb101]? = some (.cells #[(.slice A0_0 l0_0.length c0_0), (.slice A0_1 l0_1.length c0_1)] 31 (0, 0))) ∧ Aside0 (w'.heap[gb102]? = some (.cells #[(.slice none 0 0), (.slice none 0 0)] 31 (0, 0))) ∧ Aside0 (w'.heap[gb106]? = some (.cells #[(.slice Ao8 t103.length co8), u107001] 31 (0, 0))) ∧ Aside0 (Below w.heap.size w w'))
 case atStart => exact ⟨(0), (([] : List (S56))), (.slice none 0 0), (pY51), H', ⟨Nat.le_refl _⟩, ⟨by (with_reducible repeat (first | apply Kd.R_alloc | apply Kd.R_drewN | apply Kd.R_drew)); exact Kd.R_mono (Kd.R_far (p := ⟨gb106, 1, none⟩) (Kd.R_far (p := ⟨gb106, 0, none⟩) (Kd.R_types HO105.1 BK106.1 (by decide)) (fun _ hk => hk.2) (.slice Ao8 t103.length co8)) (fun _ hk => hk.2) (.slice none 0 0)) (fun _ hk => trivial)⟩, ⟨by first | exact Kd.S_nil _ _ _ _ _ | exact Kd.N_nil _ _ _ _ _ | exact Kd.V_nil _ _ _ _ _ | exact Kd.Q_nil _ _ _ _ _ | exact Kd.R_nil _ _ _ _ _⟩, ⟨by (with_reducible repeat (first | refine blk_drewN ?_ _ | refine blk_drew ?_ | refine blk_alloc ?_ _)); refine blk_far ?_ NB101_106.1 _; (with_reducible repeat (first | refine blk_drewN ?_ _ | refine blk_drew ?_ | refine blk_alloc ?_ _)); refine blk_far ?_ NB101_106.1 _; (with_reducible repeat (first | refine blk_drewN ?_ _ | refine blk_drew ?_ | refine blk_alloc ?_ _)); exact BK101.1⟩, ⟨by (with_reducible repeat (first | refine blk_drewN ?_ _ | refine blk_drew ?_ | refine blk_alloc ?_ _)); refine blk_far ?_ NB102_106.1 _; (with_reducible repeat (first | refine blk_drewN ?_ _ | refine blk_drew ?_ | refine blk_alloc ?_ _)); refine blk_far ?_ NB102_106.1 _; (with_reducible repeat (first | refine blk_drewN ?_ _ | refine blk_drew ?_ | refine blk_alloc ?_ _)); exact BK102.1⟩, ⟨by (with_reducible repeat (first | refine blk_drewN ?_ _ | refine blk_drew ?_ | refine blk_alloc ?_ _)); refine blk_put (cs := #[.slice Ao8 t103.length co8, .slice none 0 0]) ?_ 1 _ rfl; (with_reducible repeat (first | refine blk_drewN ?_ _ | refine blk_drew ?_ | refine blk_alloc ?_ _)); refine blk_put (cs := #[.slice none 0 0, .slice none 0 0]) ?_ 0 _ rfl; (with_reducible repeat (first | refine blk_drewN ?_ _ | refine blk_drew ?_ | refine blk_alloc ?_ _)); exact BK106.1⟩, ⟨pY24⟩⟩
 case round =>
  clear H'
  try clear c1
  try clear p2
  try clear c5
  try clear c9
  try clear c10
  try clear c11
  try clear hcz12_0
  try clear hcz12_1
  try clear hcz13_0
  try clear hcz13_1
  try clear hcz6_0
  try clear hcz6_1
  try clear hfz12_0
  try clear hfz12_1
  try clear hfz13_0
  try clear hfz13_1
  try clear hfz6_0
  try clear hfz6_1
  obtain ⟨x13_1, x107001_1, u107001, rfl, HA, HK1, HO_107000, HO_107001, BK101, BK102, BK106, HB⟩ := hrel
  cases gk with
  | zero => exact absurd HA.out (by simp [impl_copyBook.l0])
  | succ k1 =>
   have H := HA.out
   clear HA
   simp only [impl_copyBook.l0] at H
   by_cases c14 : x13_1 < (l0_1.length : Int)
   ·rw [if_pos c14] at H
    have c14b0 : decide (x13_1 < (l0_1.length : Int)) = true := decide_eq_true c14
    clear c14
    by_cases c15 : 0 ≤ x13_1
    ·rw [if_pos c15] at H
     have c15b0 : decide (0 ≤ x13_1) = true := decide_eq_true c15
     clear c15
     by_cases c16 : x13_1 < (l0_1.length : Int)
     ·rw [if_pos c16] at H
      have c16b0 : decide (x13_1 < (l0_1.length : Int)) = true := decide_eq_true c16
      clear c16
      replace H := Option.bind_eq_some_iff.mp H
      obtain ⟨t109, A170, H⟩ := H
      replace H : ((slices_Clone_string_string.f ((rd_T56 l0_1 x13_1).f2)).bind fun t112 => (if x107001_1.length < 2199023255552 then (impl_copyBook.l0 k1 l0_1 (l0_1.length : Int) (wrap64 (x13_1 + 1)) t103 (x107001_1 ++ [(⟨(rd_T56 l0_1 x13_1).f0, t109, t112⟩ : S56)])) else (none))) = some (r1, r2) := H
      have A17 := Aside0.mk A170
      clear A170
      replace H := Option.bind_eq_some_iff.mp H
      obtain ⟨t112, A180, H⟩ := H
      replace H : (if x107001_1.length < 2199023255552 then (impl_copyBook.l0 k1 l0_1 (l0_1.length : Int) (wrap64 (x13_1 + 1)) t103 (x107001_1 ++ [(⟨(rd_T56 l0_1 x13_1).f0, t109, t112⟩ : S56)])) else (none)) = some (r1, r2) := H
      have A18 := Aside0.mk A180
      clear A180
      by_cases c19 : x107001_1.length < 2199023255552
      ·rw [if_pos c19] at H
       have LMc19 := Aside0.mk c19
       clear c19
       obtain ⟨y115, hy115⟩ : ∃ y_ : List (S56), y_ = (x107001_1 ++ [(⟨(rd_T56 l0_1 x13_1).f0, t109, t112⟩ : S56)]) := ⟨_, rfl⟩
       replace H : (impl_copyBook.l0 k1 l0_1 (l0_1.length : Int) (wrap64 (x13_1 + 1)) t103 y115) = some (r1, r2) := by first | (rw [hy115]; with_reducible exact H) | (have H2_ := (Option.bind_some _ _).symm.trans H; rw [hy115]; with_reducible exact H2_) | (have H2_ := (Option.bind_some _ _).symm.trans H; with_reducible exact H2_) | with_reducible exact H | (rw [hy115]; exact H) | exact H
       have Ny115 := Aside0.mk hy115
       clear hy115
       have H' := Aside0.mk H
       clear H
       have p107 : 0 ≤ (x13_1 : Int) := of_decide_eq_true (pY50)
       have q107 : x13_1 < (l0_1.length : Int) := of_decide_eq_true (pY50)
       obtain ⟨ad107, A107_1, c107_1, A107_2, c107_2, e107, hx107_0, hx107_1, hx107_2, hl107_1, hi107_1, hl107_2, hi107_2⟩ := at_T56 HR0_1.1 x13_1 p107 q107
       cases e107
       replace hx107_0 := (HB.1.cell (World.block_lt_of_cell? w _ hx107_0)).trans hx107_0
       replace hx107_1 := (HB.1.cell (World.block_lt_of_cell? w _ hx107_1)).trans hx107_1
       replace hx107_2 := (HB.1.cell (World.block_lt_of_cell? w _ hx107_2)).trans hx107_2
       have HR107_1 := Aside0.mk hi107_1
       have HC107_1 := Aside0.mk hl107_1
       clear hi107_1 hl107_1
       have HR107_2 := Aside0.mk hi107_2
       have HC107_2 := Aside0.mk hl107_2
       clear hi107_2 hl107_2
       replace p107 := eq_true p107
       replace q107 := eq_true q107
       try go_wp2_with (first | ((with_reducible refine gate_dst (N := 5) rfl ?_); refine box_event ?hg (N := 5) ?hd (cs := #[.string (⟨#[]⟩ : ByteArray), .slice none 0 0, .slice none 0 0]) (t := 56) ?hr ?_; (case hd => rfl); (case hg => rfl); (case hr => first | (go_simp; done) | (go_simp; rfl)); intro gb108 hg w20 hbox hb; have n0_ := Aside0.mk (Kd.R_below (pY43) hb); have n1_ := Aside0.mk (Kd.S_below (Kd.S_elderB (pY44) gb108 (Nat.le_of_eq hg.symm)) hb); have n2_ := Aside0.mk (blk_below (g := gb101) (o := .cells #[.slice A0_0 l0_0.length c0_0, .slice (some ad107) l0_1.length c0_1] 31 (0, 0)) (pY38) hb); have n3_ := Aside0.mk (blk_below (g := gb102) (o := .cells #[.slice none 0 0, .slice none 0 0] 31 (0, 0)) (pY39) hb); have n4_ := Aside0.mk (blk_below (g := gb106) (o := .cells #[.slice Ao8 t103.length co8, u107001] 31 (0, 0)) (pY40) hb); have n5_ := Aside0.mk (below_step (pY24) hb); have n6_ := Aside0.mk (hbox); have n7_ := Aside0.mk ((by rw [hg]; exact (below_size (pY24)) : w.heap.size ≤ gb108)); have n8_ := Aside0.mk ((by rw [hg]; exact (below_size (pY24)) : w.heap.size ≤ gb108)); have n9_ := Aside0.mk ((pY12 : gb101 ≠ gb108)); have n10_ := Aside0.mk ((pY13 : gb108 ≠ gb101)); have n11_ := Aside0.mk ((pY19 : gb102 ≠ gb108)); have n12_ := Aside0.mk ((pY20 : gb108 ≠ gb102)); have n13_ := Aside0.mk ((by rw [hg]; exact Nat.ne_of_lt (blk_lt (g := gb106) (o := .cells #[.slice Ao8 t103.length co8, u107001] 31 (0, 0)) (pY40)) : gb106 ≠ gb108)); have n14_ := Aside0.mk ((by rw [hg]; exact Nat.ne_of_gt (blk_lt (g := gb106) (o := .cells #[.slice Ao8 t103.length co8, u107001] 31 (0, 0)) (pY40)) : gb108 ≠ gb106)); clear HO_107000; clear HO_107001; clear BK101; clear BK102; clear BK106; clear HB; have HO_107000 := n0_; have HO_107001 := n1_; have BK101 := n2_; have BK102 := n3_; have BK106 := n4_; have HB := n5_; have BK108 := n6_; have GW108 := n7_; have GE108 := n8_; have NB101_108 := n9_; have NB108_101 := n10_; have NB102_108 := n11_; have NB108_102 := n12_; have NB106_108 := n13_; have NB108_106 := n14_; clear n0_ n1_ n2_ n3_ n4_ n5_ n6_ n7_ n8_ n9_ n10_ n11_ n12_ n13_ n14_; clear hb hbox hg; have hnb21 := NB108_101.1; have hnc21 := NB101_108.1; have hnb22 := NB108_102.1; have hnc22 := NB102_108.1; have hnb23 := NB108_106.1; have hnc23 := NB106_108.1; have hcz24_0 : w20.cell? ⟨gb108, 0, none⟩ = some (.string (⟨#[]⟩ : ByteArray)) := (blk_cell BK108.1 0).trans rfl; have hcz24_1 : w20.cell? ⟨gb108, 1, none⟩ = some (.slice none 0 0) := (blk_cell BK108.1 1).trans rfl; have hcz24_2 : w20.cell? ⟨gb108, 2, none⟩ = some (.slice none 0 0) := (blk_cell BK108.1 2).trans rfl; have hfz24_0 := blk_frozen BK108.1 0; have hfz24_1 := blk_frozen BK108.1 1; have hfz24_2 := blk_frozen BK108.1 2))
       have n0_ : Aside0 (Kd.R Kd.string 9 (((w20.setCell ⟨gb108, 0, none⟩ (.string ((rd_T56 l0_1 x13_1).f0))).setCell ⟨gb108, 1, none⟩ (.slice A107_1 ((rd_T56 l0_1 x13_1).f1).length c107_1)).setCell ⟨gb108, 2, none⟩ (.slice A107_2 ((rd_T56 l0_1 x13_1).f2).length c107_2)) w.heap.size (fun _ => True) (.slice Ao8 t103.length co8) t103) := ⟨by (with_reducible repeat (first | apply Kd.R_alloc | apply Kd.R_drewN | apply Kd.R_drew)); exact Kd.R_mono (Kd.R_far (p := ⟨gb108, 2, none⟩) (Kd.R_far (p := ⟨gb108, 1, none⟩) (Kd.R_far (p := ⟨gb108, 0, none⟩) (Kd.R_types HO_107000.1 BK108.1 (by decide)) (fun _ hk => hk.2) (.string ((rd_T56 l0_1 x13_1).f0))) (fun _ hk => hk.2) (.slice A107_1 ((rd_T56 l0_1 x13_1).f1).length c107_1)) (fun _ hk => hk.2) (.slice A107_2 ((rd_T56 l0_1 x13_1).f2).length c107_2)) (fun _ hk => trivial)⟩
       have n1_ : Aside0 (Kd.S k56 56 (((w20.setCell ⟨gb108, 0, none⟩ (.string ((rd_T56 l0_1 x13_1).f0))).setCell ⟨gb108, 1, none⟩ (.slice A107_1 ((rd_T56 l0_1 x13_1).f1).length c107_1)).setCell ⟨gb108, 2, none⟩ (.slice A107_2 ((rd_T56 l0_1 x13_1).f2).length c107_2)) w.heap.size (fun k_ => some k_ ≠ (.slice Ao8 t103.length co8 : Value).ownBlock ∧ k_ ≠ gb108) u107001 x107001_1) := ⟨by (with_reducible repeat (first | apply Kd.S_alloc | apply Kd.S_drewN | apply Kd.S_drew)); exact Kd.S_mono (Kd.S_far (p := ⟨gb108, 2, none⟩) (Kd.S_far (p := ⟨gb108, 1, none⟩) (Kd.S_far (p := ⟨gb108, 0, none⟩) (Kd.S_mono HO_107001.1 (fun k_ hk => (⟨hk, hk.2⟩ : _ ∧ k_ ≠ gb108))) (fun _ hk => hk.2) (.string ((rd_T56 l0_1 x13_1).f0))) (fun _ hk => hk.2) (.slice A107_1 ((rd_T56 l0_1 x13_1).f1).length c107_1)) (fun _ hk => hk.2) (.slice A107_2 ((rd_T56 l0_1 x13_1).f2).length c107_2)) (fun _ hk => ⟨hk.1.1, hk.1.2⟩)⟩
       have n2_ : Aside0 ((((w20.setCell ⟨gb108, 0, none⟩ (.string ((rd_T56 l0_1 x13_1).f0))).setCell ⟨gb108, 1, none⟩ (.slice A107_1 ((rd_T56 l0_1 x13_1).f1).length c107_1)).setCell ⟨gb108, 2, none⟩ (.slice A107_2 ((rd_T56 l0_1 x13_1).f2).length c107_2)).heap[gb101]? = some (.cells #[.slice A0_0 l0_0.length c0_0, .slice (some ad107) l0_1.length c0_1] 31 (0, 0))) := ⟨by (with_reducible repeat (first | refine blk_drewN ?_ _ | refine blk_drew ?_ | refine blk_alloc ?_ _)); refine blk_far ?_ NB101_108.1 _; (with_reducible repeat (first | refine blk_drewN ?_ _ | refine blk_drew ?_ | refine blk_alloc ?_ _)); refine blk_far ?_ NB101_108.1 _; (with_reducible repeat (first | refine blk_drewN ?_ _ | refine blk_drew ?_ | refine blk_alloc ?_ _)); refine blk_far ?_ NB101_108.1 _; (with_reducible repeat (first | refine blk_drewN ?_ _ | refine blk_drew ?_ | refine blk_alloc ?_ _)); exact BK101.1⟩
       have n3_ : Aside0 ((((w20.setCell ⟨gb108, 0, none⟩ (.string ((rd_T56 l0_1 x13_1).f0))).setCell ⟨gb108, 1, none⟩ (.slice A107_1 ((rd_T56 l0_1 x13_1).f1).length c107_1)).setCell ⟨gb108, 2, none⟩ (.slice A107_2 ((rd_T56 l0_1 x13_1).f2).length c107_2)).heap[gb102]? = some (.cells #[.slice none 0 0, .slice none 0 0] 31 (0, 0))) := ⟨by (with_reducible repeat (first | refine blk_drewN ?_ _ | refine blk_drew ?_ | refine blk_alloc ?_ _)); refine blk_far ?_ NB102_108.1 _; (with_reducible repeat (first | refine blk_drewN ?_ _ | refine blk_drew ?_ | refine blk_alloc ?_ _)); refine blk_far ?_ NB102_108.1 _; (with_reducible repeat (first | refine blk_drewN ?_ _ | refine blk_drew ?_ | refine blk_alloc ?_ _)); refine blk_far ?_ NB102_108.1 _; (with_reducible repeat (first | refine blk_drewN ?_ _ | refine blk_drew ?_ | refine blk_alloc ?_ _)); exact BK102.1⟩
       have n4_ : Aside0 ((((w20.setCell ⟨gb108, 0, none⟩ (.string ((rd_T56 l0_1 x13_1).f0))).setCell ⟨gb108, 1, none⟩ (.slice A107_1 ((rd_T56 l0_1 x13_1).f1).length c107_1)).setCell ⟨gb108, 2, none⟩ (.slice A107_2 ((rd_T56 l0_1 x13_1).f2).length c107_2)).heap[gb106]? = some (.cells #[.slice Ao8 t103.length co8, u107001] 31 (0, 0))) := ⟨by (with_reducible repeat (first | refine blk_drewN ?_ _ | refine blk_drew ?_ | refine blk_alloc ?_ _)); refine blk_far ?_ NB106_108.1 _; (with_reducible repeat (first | refine blk_drewN ?_ _ | refine blk_drew ?_ | refine blk_alloc ?_ _)); refine blk_far ?_ NB106_108.1 _; (with_reducible repeat (first | refine blk_drewN ?_ _ | refine blk_drew ?_ | refine blk_alloc ?_ _)); refine blk_far ?_ NB106_108.1 _; (with_reducible repeat (first | refine blk_drewN ?_ _ | refine blk_drew ?_ | refine blk_alloc ?_ _)); exact BK106.1⟩
       have n5_ : Aside0 ((((w20.setCell ⟨gb108, 0, none⟩ (.string ((rd_T56 l0_1 x13_1).f0))).setCell ⟨gb108, 1, none⟩ (.slice A107_1 ((rd_T56 l0_1 x13_1).f1).length c107_1)).setCell ⟨gb108, 2, none⟩ (.slice A107_2 ((rd_T56 l0_1 x13_1).f2).length c107_2)).heap[gb108]? = some (.cells #[.string ((rd_T56 l0_1 x13_1).f0), .slice A107_1 ((rd_T56 l0_1 x13_1).f1).length c107_1, .slice A107_2 ((rd_T56 l0_1 x13_1).f2).length c107_2] 56 (0, 0))) := ⟨by (with_reducible repeat (first | refine blk_drewN ?_ _ | refine blk_drew ?_ | refine blk_alloc ?_ _)); refine blk_put (cs := #[.string ((rd_T56 l0_1 x13_1).f0), .slice A107_1 ((rd_T56 l0_1 x13_1).f1).length c107_1, .slice none 0 0]) ?_ 2 _ rfl; (with_reducible repeat (first | refine blk_drewN ?_ _ | refine blk_drew ?_ | refine blk_alloc ?_ _)); refine blk_put (cs := #[.string ((rd_T56 l0_1 x13_1).f0), .slice none 0 0, .slice none 0 0]) ?_ 1 _ rfl; (with_reducible repeat (first | refine blk_drewN ?_ _ | refine blk_drew ?_ | refine blk_alloc ?_ _)); refine blk_put (cs := #[.string (⟨#[]⟩ : ByteArray), .slice none 0 0, .slice none 0 0]) ?_ 0 _ rfl; (with_reducible repeat (first | refine blk_drewN ?_ _ | refine blk_drew ?_ | refine blk_alloc ?_ _)); exact BK108.1⟩
       have n6_ : Aside0 (Below w.heap.size w (((w20.setCell ⟨gb108, 0, none⟩ (.string ((rd_T56 l0_1 x13_1).f0))).setCell ⟨gb108, 1, none⟩ (.slice A107_1 ((rd_T56 l0_1 x13_1).f1).length c107_1)).setCell ⟨gb108, 2, none⟩ (.slice A107_2 ((rd_T56 l0_1 x13_1).f2).length c107_2))) := ⟨pY14⟩
       (try clear HO_107000)
       (try clear HO_107001)
       (try clear BK101)
       (try clear BK102)
       (try clear BK106)
       (try clear BK108)
       (try clear HB)
       generalize (((w20.setCell ⟨gb108, 0, none⟩ (.string ((rd_T56 l0_1 x13_1).f0))).setCell ⟨gb108, 1, none⟩ (.slice A107_1 ((rd_T56 l0_1 x13_1).f1).length c107_1)).setCell ⟨gb108, 2, none⟩ (.slice A107_2 ((rd_T56 l0_1 x13_1).f2).length c107_2)) = w25 at n0_ n1_ n2_ n3_ n4_ n5_ n6_ ⊢
       have HO_107000 := n0_
       have HO_107001 := n1_
       have BK101 := n2_
       have BK102 := n3_
       have BK106 := n4_
       have BK108 := n5_
       have HB := n6_
       clear n0_ n1_ n2_ n3_ n4_ n5_ n6_
       have n0_ := Aside0.mk (Kd.R_drew HO_107000.1)
       have n1_ := Aside0.mk (Kd.S_drew HO_107001.1)
       have n2_ := Aside0.mk (blk_drew BK101.1)
       have n3_ := Aside0.mk (blk_drew BK102.1)
       have n4_ := Aside0.mk (blk_drew BK106.1)
       have n5_ := Aside0.mk (blk_drew BK108.1)
       have n6_ := Aside0.mk (below_drew1 HB.1)
       clear HO_107000
       clear HO_107001
       clear BK101
       clear BK102
       clear BK106
       clear BK108
       clear HB
       have HO_107000 := n0_
       have HO_107001 := n1_
       have BK101 := n2_
       have BK102 := n3_
       have BK106 := n4_
       have BK108 := n5_
       have HB := n6_
       clear n0_ n1_ n2_ n3_ n4_ n5_ n6_
       refine start_ (n := 15) (S := fun w' => w'.cell? ⟨gb106, 0, none⟩ = some (.slice Ao8 t103.length co8) ∧ w'.cell? ⟨gb106, 1, none⟩ = some (u107001) ∧ w'.cell? ⟨gb108, 0, none⟩ = some (.string ((rd_T56 l0_1 x13_1).f0)) ∧ w'.cell? ⟨gb108, 1, none⟩ = some (.slice A107_1 ((rd_T56 l0_1 x13_1).f1).length c107_1) ∧ w'.cell? ⟨gb108, 2, none⟩ = some (.slice A107_2 ((rd_T56 l0_1 x13_1).f2).length c107_2)) (ds := [14]) #[ff,ff,ff,ff,ff,ff,ff,ff,ff,ff,ff,ff,ff,ff,ff] (by kernel_rfl) rfl rfl ⟨(blk_cell BK106.1 0).trans rfl, (blk_cell BK106.1 1).trans rfl, (blk_cell BK108.1 0).trans rfl, (blk_cell BK108.1 1).trans rfl, (blk_cell BK108.1 2).trans rfl⟩ (fun hHeld => ?_); refine with_tabW impl_copyBook.tab5 impl_copyBook.bits5 (fun HT_ HW_ => ?_)
       generalize w25.drew = w26 at HO_107000 HO_107001 BK101 BK102 BK106 BK108 HB hHeld ⊢
       refine pU (i := 0) (N := some 17) #[tt,ff,ff,ff,ff,ff,ff,ff,ff,ff,ff,ff,ff,ff,ff] ?_
       refine pU (i := 2) (N := some 19) #[tt,ff,tt,ff,ff,ff,ff,ff,ff,ff,ff,ff,ff,ff,ff] ?_
       refine pU (i := 4) (N := some 21) #[tt,ff,tt,ff,tt,ff,ff,ff,ff,ff,ff,ff,ff,ff,ff] ?_
       refine pU (i := 7) (N := some 24) #[tt,ff,tt,ff,tt,ff,ff,tt,ff,ff,ff,ff,ff,ff,ff] ?_
       refine tK5 (i := 1) (N := some 18) #[tt,tt,tt,ff,tt,ff,ff,tt,ff,ff,ff,ff,ff,ff,ff] ?_
       refine tK5 (i := 3) (N := some 20) #[tt,tt,tt,tt,tt,ff,ff,tt,ff,ff,ff,ff,ff,ff,ff] ?_
       refine tK5 (i := 5) (N := some 22) #[tt,tt,tt,tt,tt,tt,ff,tt,ff,ff,ff,ff,ff,ff,ff] ?_
       refine tK5 (i := 8) (N := some 25) #[tt,tt,tt,tt,tt,tt,ff,tt,tt,ff,ff,ff,ff,ff,ff] ?_
       refine one_ (i := 6) (N := some 23) #[tt,tt,tt,tt,tt,tt,tt,tt,tt,ff,ff,ff,ff,ff,ff] rfl rfl (one_of HT_.out (by kernel_rfl)) (by decide) (fun K hK => ?_)
       refine goes_ Try.func94 (by kernel_rfl) rfl #[.slice A107_1 ((rd_T56 l0_1 x13_1).f1).length c107_1] (by rfl) rfl rfl (pY36) ?_
       with_reducible refine (slices_Clone_string_string.calls _ _ ((rd_T56 l0_1 x13_1).f1) t109 _ ?side1 ?side2 A17.out).mono ?_
       (case side1 => exact pC (Kd.C_below HR107_1.1 HB.1))
       (case side2 => exact HC107_1.1)
       rintro e w27 ⟨v110, rfl, ho0, hb⟩
       refine ⟨_, rfl, ?_⟩
       have n0_ := Aside0.mk (Kd.R_elder' (pY43) (Kd.R_base ho0) hb)
       have n1_ := Aside0.mk (Kd.S_elder' (pY44) (Kd.R_base ho0) hb)
       have n2_ := Aside0.mk (Kd.R_lower (Kd.R_new' ho0 (Kd.R_lt (pY43))) (below_size (pY14)))
       have n3_ := Aside0.mk (blk_below (g := gb101) (o := .cells #[.slice A0_0 l0_0.length c0_0, .slice (some ad107) l0_1.length c0_1] 31 (0, 0)) (pY38) hb)
       have n4_ := Aside0.mk (blk_below (g := gb102) (o := .cells #[.slice none 0 0, .slice none 0 0] 31 (0, 0)) (pY39) hb)
       have n5_ := Aside0.mk (blk_below (g := gb106) (o := .cells #[.slice Ao8 t103.length co8, u107001] 31 (0, 0)) (pY40) hb)
       have n6_ := Aside0.mk (blk_below (g := gb108) (o := .cells #[.string ((rd_T56 l0_1 x13_1).f0), .slice A107_1 ((rd_T56 l0_1 x13_1).f1).length c107_1, .slice A107_2 ((rd_T56 l0_1 x13_1).f2).length c107_2] 56 (0, 0)) (pY42) hb)
       have n7_ := Aside0.mk (below_step (pY14) hb)
       clear HO_107000
       clear HO_107001
       clear BK101
       clear BK102
       clear BK106
       clear BK108
       clear HB
       have HO_107000 := n0_
       have HO_107001 := n1_
       have HO111 := n2_
       have BK101 := n3_
       have BK102 := n4_
       have BK106 := n5_
       have BK108 := n6_
       have HB := n7_
       clear n0_ n1_ n2_ n3_ n4_ n5_ n6_ n7_
       (try clear hb)
       (try clear hb2)
       (try clear hk)
       (try clear hi)
       (try clear ho0)
       refine hK.out _ _ ⟨(blk_cell BK106.1 0).trans rfl, (blk_cell BK106.1 1).trans rfl, (blk_cell BK108.1 0).trans rfl, (blk_cell BK108.1 1).trans rfl, (blk_cell BK108.1 2).trans rfl⟩ (fun hHeld => ?_)
       clear hK K
       refine norm_ (a' := ?_) ?_ ?_
       rotate_left
       ·show Act.put _ (some 23) _ = _
        simp only [pW]
        rfl
       refine one_ (i := 9) (N := some 26) #[tt,tt,tt,tt,tt,tt,tt,tt,tt,tt,ff,ff,ff,ff,ff] rfl rfl (one_of HT_.out (by kernel_rfl)) (by decide) (fun K hK => ?_)
       refine goes_ Try.func94 (by kernel_rfl) rfl #[.slice A107_2 ((rd_T56 l0_1 x13_1).f2).length c107_2] (by rfl) rfl rfl (pY36) ?_
       with_reducible refine (slices_Clone_string_string.calls _ _ ((rd_T56 l0_1 x13_1).f2) t112 _ ?side1 ?side2 A18.out).mono ?_
       (case side1 => exact pC (Kd.C_below HR107_2.1 HB.1))
       (case side2 => exact HC107_2.1)
       rintro e w28 ⟨v113, rfl, ho0, hb⟩
       refine ⟨_, rfl, ?_⟩
       have n0_ := Aside0.mk (Kd.R_elder' (pY43) (Kd.R_base ho0) hb)
       have n1_ := Aside0.mk (Kd.S_elder' (pY44) (Kd.R_base ho0) hb)
       have n2_ := Aside0.mk (Kd.R_elder' (by (with_reducible repeat (first | apply Kd.R_alloc | apply Kd.R_drewN | apply Kd.R_drew)); exact HO111.1) (Kd.R_base ho0) hb)
       have n3_ := Aside0.mk (Kd.R_lower (Kd.R_new' (Kd.R_new' ho0 (Kd.R_lt (pY43))) (Kd.R_lt (by (with_reducible repeat (first | apply Kd.R_alloc | apply Kd.R_drewN | apply Kd.R_drew)); exact HO111.1))) (below_size (pY14)))
       have n4_ := Aside0.mk (blk_below (g := gb101) (o := .cells #[.slice A0_0 l0_0.length c0_0, .slice (some ad107) l0_1.length c0_1] 31 (0, 0)) (pY38) hb)
       have n5_ := Aside0.mk (blk_below (g := gb102) (o := .cells #[.slice none 0 0, .slice none 0 0] 31 (0, 0)) (pY39) hb)
       have n6_ := Aside0.mk (blk_below (g := gb106) (o := .cells #[.slice Ao8 t103.length co8, u107001] 31 (0, 0)) (pY40) hb)
       have n7_ := Aside0.mk (blk_below (g := gb108) (o := .cells #[.string ((rd_T56 l0_1 x13_1).f0), .slice A107_1 ((rd_T56 l0_1 x13_1).f1).length c107_1, .slice A107_2 ((rd_T56 l0_1 x13_1).f2).length c107_2] 56 (0, 0)) (pY42) hb)
       have n8_ := Aside0.mk (below_step (pY14) hb)
       clear HO_107000
       clear HO_107001
       clear HO111
       clear BK101
       clear BK102
       clear BK106
       clear BK108
       clear HB
       have HO_107000 := n0_
       have HO_107001 := n1_
       have HO111 := n2_
       have HO114 := n3_
       have BK101 := n4_
       have BK102 := n5_
       have BK106 := n6_
       have BK108 := n7_
       have HB := n8_
       clear n0_ n1_ n2_ n3_ n4_ n5_ n6_ n7_ n8_
       (try clear hb)
       (try clear hb2)
       (try clear hk)
       (try clear hi)
       (try clear ho0)
       obtain ⟨Ao29, co29, eo29⟩ := Kd.R_slice HO114.1
       (first | subst eo29 | (injection eo29 with f1_ f2_ f3_; have f4_ := f1_.symm; have f5_ := f3_.symm; clear f1_ f2_ f3_; subst f4_; subst f5_))
       obtain ⟨Ao30, co30, eo30⟩ := Kd.R_slice HO111.1
       (first | subst eo30 | (injection eo30 with f1_ f2_ f3_; have f4_ := f1_.symm; have f5_ := f3_.symm; clear f1_ f2_ f3_; subst f4_; subst f5_))
       refine hK.out _ _ ⟨(blk_cell BK106.1 0).trans rfl, (blk_cell BK106.1 1).trans rfl, (blk_cell BK108.1 0).trans rfl, (blk_cell BK108.1 1).trans rfl, (blk_cell BK108.1 2).trans rfl⟩ (fun hHeld => ?_)
       clear hK K
       refine norm_ (a' := ?_) ?_ ?_
       rotate_left
       ·show Act.put _ (some 26) _ = _
        simp only [pW]
        rfl
       refine pU (i := 10) (N := some 27) #[tt,tt,tt,tt,tt,tt,tt,tt,tt,tt,tt,ff,ff,ff,ff] ?_
       refine one_ (i := 11) (N := some 28) #[tt,tt,tt,tt,tt,tt,tt,tt,tt,tt,tt,tt,ff,ff,ff] rfl rfl (one_of HT_.out (by kernel_rfl)) (by decide) (fun K hK => ?_)
       refine value_ (w1 := ?_) (v := ?_) (by rfl) rfl ?_ ?_
       rotate_left 2
       ·go_simp
        constructor
        ·rfl
        ·rfl
       refine hK.out _ _ ⟨(blk_cell (blk_alloc BK106.1 _) 0).trans rfl, (blk_cell (blk_alloc BK106.1 _) 1).trans rfl, (blk_cell (blk_alloc BK108.1 _) 0).trans rfl, (blk_cell (blk_alloc BK108.1 _) 1).trans rfl, (blk_cell (blk_alloc BK108.1 _) 2).trans rfl⟩ (fun hHeld => ?_)
       clear hK K
       refine norm_ (a' := ?_) ?_ ?_
       rotate_left
       ·show Act.put _ (some 28) _ = _
        simp only [pW]
        rfl
       refine one_ (i := 12) (N := some 29) #[tt,tt,tt,tt,tt,tt,tt,tt,tt,tt,tt,tt,tt,ff,ff] rfl rfl (one_of HT_.out (by kernel_rfl)) (by decide) (fun K hK => ?_)
       refine Kd.S_append_step k56 (w0 := w) w.heap.size (by rfl) (.tmp 18) (.tmp 28) 29 56 (.agg #[(.string ⟨#[]⟩), (.slice none 0 0), (.slice none 0 0)]) 64 rfl Try.underlying29 info56 rfl (by decide) (by omega) u107001 x107001_1 (⟨(rd_T56 l0_1 x13_1).f0, t109, t112⟩ : S56) [.string ((rd_T56 l0_1 x13_1).f0), .slice Ao30 t109.length co30, .slice Ao29 t112.length co29] (fun k_ => some k_ ≠ (.slice Ao8 t103.length co8 : Value).ownBlock ∧ k_ ≠ gb108) (fun k_ => some k_ = (.slice Ao30 t109.length co30 : Value).ownBlock ∨ some k_ = (.slice Ao29 t112.length co29 : Value).ownBlock) rfl rfl ?aP (fun k_ hk_ => hk_.elim (fun h_ => ((Kd.R_mono (ok' := fun k_ => ((fun k_ => some k_ ≠ (.slice Ao8 t103.length co8 : Value).ownBlock ∧ k_ ≠ gb108)) k_ ∧ some k_ ≠ (u107001 : Value).ownBlock) (Kd.R_types (Kd.R_apart' (HO111.1) (Kd.S_typed HO_107001.1) (by decide)) BK108.1 (by decide)) (fun k_ hk => ⟨⟨hk.1.1.1.2, hk.2⟩, hk.1.2⟩))).1 k_ h_.symm) (fun h_ => ((Kd.R_mono (ok' := fun k_ => ((fun k_ => some k_ ≠ (.slice Ao8 t103.length co8 : Value).ownBlock ∧ k_ ≠ gb108)) k_ ∧ some k_ ≠ (u107001 : Value).ownBlock) (Kd.R_types (Kd.R_apart' (HO114.1) (Kd.S_typed HO_107001.1) (by decide)) BK108.1 (by decide)) (fun k_ hk => ⟨⟨hk.1.1.1.2, hk.2⟩, hk.1.2⟩))).1 k_ h_.symm)) ?aF ?aO ?aB ?aS ?aL ?_
       (case aP => exact k56_mkM _ _ _ (⟨(rd_T56 l0_1 x13_1).f0, t109, t112⟩ : S56) (Kd.R_mono (Kd.R_tight rfl (Kd.R_mono (ok' := fun k_ => ((fun k_ => some k_ ≠ (.slice Ao8 t103.length co8 : Value).ownBlock ∧ k_ ≠ gb108)) k_ ∧ some k_ ≠ (u107001 : Value).ownBlock) (Kd.R_types (Kd.R_apart' (HO111.1) (Kd.S_typed HO_107001.1) (by decide)) BK108.1 (by decide)) (fun k_ hk => ⟨⟨hk.1.1.1.2, hk.2⟩, hk.1.2⟩))) (fun _ h_ => Or.inl h_)) (Kd.R_mono (Kd.R_tight rfl (Kd.R_mono (ok' := fun k_ => ((fun k_ => some k_ ≠ (.slice Ao8 t103.length co8 : Value).ownBlock ∧ k_ ≠ gb108)) k_ ∧ some k_ ≠ (u107001 : Value).ownBlock) (Kd.R_types (Kd.R_apart' (HO114.1) (Kd.S_typed HO_107001.1) (by decide)) BK108.1 (by decide)) (fun k_ hk => ⟨⟨hk.1.1.1.2, hk.2⟩, hk.1.2⟩))) (fun _ h_ => Or.inr (h_))) (sep_of HO111.1 HO114.1))
       (case aB => exact (pY14))
       (case aF => exact (fun k_ hk => ⟨Kd.fresh' (Kd.R_lt (pY43)) k_ hk, Kd.freshB (g := gb108) (o := .cells #[.string ((rd_T56 l0_1 x13_1).f0), .slice A107_1 ((rd_T56 l0_1 x13_1).f1).length c107_1, .slice A107_2 ((rd_T56 l0_1 x13_1).f2).length c107_2] 56 (0, 0)) (pY42) k_ hk⟩))
       (case aO => exact (by (with_reducible repeat (first | apply Kd.S_alloc | apply Kd.S_drewN | apply Kd.S_drew)); exact Kd.S_mono HO_107001.1 (fun k_ hk => ⟨⟨hk.1.1.1, hk.1.1.2⟩, fun e_ => e_.elim (fun h_ => hk.1.2 h_) (fun h_ => hk.2 h_)⟩)))
       (case aS => exact (below_size (pY14)))
       (case aL => have := LMc19.out; omega)
       intro v116 w31 ho hb hg hat
       rw [← Ny115.out] at ho
       have n0_ := Aside0.mk (Kd.R_over' (pY43) (Kd.S_typed (pY44)) (by decide) hg)
       have n1_ := Aside0.mk (blk_grown (g := gb101) (o := .cells #[.slice A0_0 l0_0.length c0_0, .slice (some ad107) l0_1.length c0_1] 31 (0, 0)) (pY38) hg (Kd.S_ne HO_107001.1 BK101.1 (by decide)))
       have n2_ := Aside0.mk (blk_grown (g := gb102) (o := .cells #[.slice none 0 0, .slice none 0 0] 31 (0, 0)) (pY39) hg (Kd.S_ne HO_107001.1 BK102.1 (by decide)))
       have n3_ := Aside0.mk (blk_grown (g := gb106) (o := .cells #[.slice Ao8 t103.length co8, u107001] 31 (0, 0)) (pY40) hg (Kd.S_ne HO_107001.1 BK106.1 (by decide)))
       have n4_ := Aside0.mk (blk_grown (g := gb108) (o := .cells #[.string ((rd_T56 l0_1 x13_1).f0), .slice A107_1 ((rd_T56 l0_1 x13_1).f1).length c107_1, .slice A107_2 ((rd_T56 l0_1 x13_1).f2).length c107_2] 56 (0, 0)) (pY42) hg (Kd.S_away HO_107001.1 (fun _ hk => hk.1.1.2)))
       have n5_ := Aside0.mk (hb)
       have n6_ := Aside0.mk (ho)
       clear HO_107000
       clear BK101
       clear BK102
       clear BK106
       clear BK108
       clear HB
       clear HO_107001
       clear HO111
       clear HO114
       have HO_107000 := n0_
       have BK101 := n1_
       have BK102 := n2_
       have BK106 := n3_
       have BK108 := n4_
       have HB := n5_
       have HO117 := n6_
       clear n0_ n1_ n2_ n3_ n4_ n5_ n6_
       clear ho hb hg hat
       obtain ⟨Ao32, co32, eo32⟩ := Kd.S_slice HO117.1
       (first | subst eo32 | (injection eo32 with f1_ f2_ f3_; have f4_ := f1_.symm; have f5_ := f3_.symm; clear f1_ f2_ f3_; subst f4_; subst f5_))
       refine hK.out _ _ ⟨(blk_cell BK106.1 0).trans rfl, (blk_cell BK106.1 1).trans rfl, (blk_cell BK108.1 0).trans rfl, (blk_cell BK108.1 1).trans rfl, (blk_cell BK108.1 2).trans rfl⟩ (fun hHeld => ?_)
       clear hK K
       refine norm_ (a' := ?_) ?_ ?_
       rotate_left
       ·show Act.put _ (some 29) _ = _
        simp only [pW]
        rfl
       refine pU (i := 13) (N := some 30) #[tt,tt,tt,tt,tt,tt,tt,tt,tt,tt,tt,tt,tt,tt,ff] ?_
       refine last_ (i := 14) (N := none) #[tt,tt,tt,tt,tt,tt,tt,tt,tt,tt,tt,tt,tt,tt,tt] rfl rfl (one_of HT_.out (by kernel_rfl)) (by decide) (fun K hK => ?_)
       have hs33 : w31.cell? ⟨gb106, 1, none⟩ = some (u107001) := (blk_cell BK106.1 1).trans rfl
       have hfs33 := blk_frozen BK106.1 1
       have hns33_0 := NB101_106.1
       have hns33_1 := NB102_106.1
       have hns33_3 := NB108_106.1
       have hms33_0 := NB106_101.1
       have hms33_1 := NB106_102.1
       have hms33_3 := NB106_108.1
       refine skip_ (w1 := ?_) (by rfl) rfl ?_ ?_
       rotate_left
       ·go_simp
        rfl
       refine hK.out _ _ ?_
       clear hK K
       refine done_ (done_of HT_.out (by kernel_rfl)) ?_
       try go_wp2
       go_roundg k1
       case measure => have := HK1.out; omega
       case rel => exact ⟨(wrap64 (x13_1 + 1)), (y115), (.slice Ao32 y115.length co32), (pY51), H', ⟨by have := HK1.out; omega⟩, ⟨by (with_reducible repeat (first | apply Kd.R_alloc | apply Kd.R_drewN | apply Kd.R_drew)); exact Kd.R_mono (Kd.R_far (p := ⟨gb106, 1, none⟩) (Kd.R_types HO_107000.1 BK106.1 (by decide)) (fun _ hk => hk.2) (.slice Ao32 y115.length co32)) (fun _ hk => trivial)⟩, ⟨by (with_reducible repeat (first | apply Kd.S_alloc | apply Kd.S_drewN | apply Kd.S_drew)); exact Kd.S_mono (Kd.S_far (p := ⟨gb106, 1, none⟩) (Kd.S_types HO117.1 BK106.1 (by decide)) (fun _ hk => hk.2) (.slice Ao32 y115.length co32)) (fun _ hk => hk.1.1)⟩, ⟨by (with_reducible repeat (first | refine blk_drewN ?_ _ | refine blk_drew ?_ | refine blk_alloc ?_ _)); refine blk_far ?_ NB101_106.1 _; (with_reducible repeat (first | refine blk_drewN ?_ _ | refine blk_drew ?_ | refine blk_alloc ?_ _)); exact BK101.1⟩, ⟨by (with_reducible repeat (first | refine blk_drewN ?_ _ | refine blk_drew ?_ | refine blk_alloc ?_ _)); refine blk_far ?_ NB102_106.1 _; (with_reducible repeat (first | refine blk_drewN ?_ _ | refine blk_drew ?_ | refine blk_alloc ?_ _)); exact BK102.1⟩, ⟨by (with_reducible repeat (first | refine blk_drewN ?_ _ | refine blk_drew ?_ | refine blk_alloc ?_ _)); refine blk_put (cs := #[.slice Ao8 t103.length co8, u107001]) ?_ 1 _ rfl; (with_reducible repeat (first | refine blk_drewN ?_ _ | refine blk_drew ?_ | refine blk_alloc ?_ _)); exact BK106.1⟩, ⟨pY14⟩⟩
      ·rw [if_neg c19] at H
       exact absurd H (by simp)
     ·rw [if_neg c16] at H
      exact absurd H (by simp)
    ·rw [if_neg c15] at H
     exact absurd H (by simp)
   ·rw [if_neg c14] at H
    have c14b0 : decide (x13_1 < (l0_1.length : Int)) = false := decide_eq_false c14
    clear c14
    simp only [Option.some.injEq, Prod.mk.injEq] at H
    obtain ⟨rfl, rfl⟩ := H
    have hnb34 := NB106_101.1
    have hnc34 := NB101_106.1
    have hnb35 := NB106_102.1
    have hnc35 := NB102_106.1
    have hcz36_0 : wr.cell? ⟨gb106, 0, none⟩ = some (.slice Ao8 t103.length co8) := (blk_cell BK106.1 0).trans rfl
    have hcz36_1 : wr.cell? ⟨gb106, 1, none⟩ = some (u107001) := (blk_cell BK106.1 1).trans rfl
    have hfz36_0 := blk_frozen BK106.1 0
    have hfz36_1 := blk_frozen BK106.1 1
    have hnb37 := NB102_101.1
    have hnc37 := NB101_102.1
    have hcz38_0 : wr.cell? ⟨gb102, 0, none⟩ = some (.slice none 0 0) := (blk_cell BK102.1 0).trans rfl
    have hcz38_1 : wr.cell? ⟨gb102, 1, none⟩ = some (.slice none 0 0) := (blk_cell BK102.1 1).trans rfl
    have hfz38_0 := blk_frozen BK102.1 0
    have hfz38_1 := blk_frozen BK102.1 1
    obtain ⟨Ao39, co39, eo39⟩ := Kd.S_slice HO_107001.1
    subst eo39
    go_wp2
    refine bodyPost_ret (results_cell_row rfl _ _ gb102 31 #[.slice Ao8 t103.length co8, .slice Ao39 x107001_1.length co39] (0, 0) _ rfl (by (with_reducible repeat (first | refine blk_drewN ?_ _ | refine blk_drew ?_ | refine blk_alloc ?_ _)); refine blk_put (cs := #[.slice Ao8 t103.length co8, .slice none 0 0]) ?_ 1 _ rfl; (with_reducible repeat (first | refine blk_drewN ?_ _ | refine blk_drew ?_ | refine blk_alloc ?_ _)); refine blk_put (cs := #[.slice none 0 0, .slice none 0 0]) ?_ 0 _ rfl; (with_reducible repeat (first | refine blk_drewN ?_ _ | refine blk_drew ?_ | refine blk_alloc ?_ _)); exact BK102.1) Try.underlying31 rfl (by kernel_rfl)) rfl ?_
    exact ⟨_, _, by first | rfl | (simp [errW_none, errW_some] <;> rfl) | (simp [*, errW_none, errW_some] <;> rfl), by (with_reducible repeat (first | apply Kd.R_alloc | apply Kd.R_drewN | apply Kd.R_drew)); exact Kd.R_mono (Kd.R_far (p := ⟨gb102, 1, none⟩) (Kd.R_far (p := ⟨gb102, 0, none⟩) (Kd.R_types HO_107000.1 BK102.1 (by decide)) (fun _ hk => hk.2) (.slice Ao8 t103.length co8)) (fun _ hk => hk.2) (.slice Ao39 x107001_1.length co39)) (fun _ hk => trivial), by (with_reducible repeat (first | apply Kd.S_alloc | apply Kd.S_drewN | apply Kd.S_drew)); exact Kd.S_mono (Kd.S_far (p := ⟨gb102, 1, none⟩) (Kd.S_far (p := ⟨gb102, 0, none⟩) (Kd.S_types HO_107001.1 BK102.1 (by decide)) (fun _ hk => hk.2) (.slice Ao8 t103.length co8)) (fun _ hk => hk.2) (.slice Ao39 x107001_1.length co39)) (fun _ hk => hk.1), pY24⟩
end Go.Proofs.Ytaofjgnhapnndaa.Q
namespace Go.Proofs.Ytaofjgnhapnndaa.Q
open Go.RowKit Go.Proofs.YtaofjgnhapnndaaW.PrintWords Go.Proofs.YtaofjgnhapnndaaW.PrintLast Go.Proofs.YtaofjgnhapnndaaW.PrintMore
set_option linter.unusedVariables false
set_option linter.unusedSimpArgs false
theorem BkS.far {w0 W : World} {lo hi g j t : Nat} {v0 v1 u : Value} {l0 : List ByteArray} {l1 : List S56} {cs : Array Value} (h : BkS w0 W lo hi v0 v1 l0 l1) (hb : W.heap[g]? = some (.cells cs t (0, 0))) (ht : t ≠ 9 ∧ t ≠ 56) : BkS w0 (W.setCell ⟨g, j, none⟩ u) lo hi v0 v1 l0 l1 := by
 have hk : Kept W (W.setCell ⟨g, j, none⟩ u) (fun k => k = g) := Kept.setCell (p := ⟨g, j, none⟩) (Kept.refl W (fun k => k = g)) (Or.inl rfl) u
 refine ⟨Kd.R_mono (Kd.R_kept (Kd.R_bound h.1) hk (fun k hk2 e => ?_)) (fun k hk2 => hk2.1), Kd.S_mono (Kd.S_kept (Kd.S_bound h.2) hk (fun k hk2 e => ?_)) (fun k hk2 => hk2.1)⟩
 ·obtain ⟨_, _, _, q, hq, cells, hc⟩ := hk2
  subst e
  rw [hb] at hc; injection hc with hc; injection hc with _ e _; subst e
  have hq2 : t ∈ [9] := hq
  exact ht.1 (by simpa using hq2)
 ·obtain ⟨_, _, _, q, hq, cells, hc⟩ := hk2
  subst e
  rw [hb] at hc; injection hc with hc; injection hc with _ e _; subst e
  have hq2 : t ∈ [56, 9, 9] := hq
  simp at hq2
  exact hq2.elim ht.2 ht.1
theorem BkS.appM {w0 W : World} {lo hi lo2 hi2 : Nat} {v0 v1 vn : Value} {l0 nd : List ByteArray} {l1 : List S56} (a1 : ByteArray) (h : BkS w0 W lo hi v0 v1 l0 l1) (hv : RwS w0 W lo2 hi2 vn nd) (hle : hi ≤ lo2) (hlo : lo ≤ hi) (hW : hi ≤ W.heap.size) :
  k56.M W w0.heap.size (fun k => some k = vn.ownBlock) (⟨a1, [], nd⟩ : S56) [.string a1, .slice none 0 0, vn] ∧ (∀ k, some k = vn.ownBlock → (lo ≤ k ∧ some k ≠ v0.ownBlock) ∧ some k ≠ v1.ownBlock) ∧ (∀ k, W.heap.size ≤ k → lo ≤ k ∧ some k ≠ v0.ownBlock) ∧
   Kd.S k56 56 W w0.heap.size (fun k => (lo ≤ k ∧ some k ≠ v0.ownBlock) ∧ ¬ some k = vn.ownBlock) v1 l1 := by
 refine ⟨k56_mkM _ _ _ ⟨a1, [], nd⟩ (Kd.R_nil _ _ _ _ _) (Kd.R_tight rfl hv), fun k e => ?_, fun k e => ⟨by omega, fun e2 => ?_⟩, Kd.S_mono h.2 (fun k e => ⟨⟨e.1.1, e.2⟩, fun e2 => ?_⟩)⟩
 ·have q := hv.1 k e.symm
  refine ⟨⟨by omega, fun e2 => ?_⟩, fun e2 => ?_⟩
  ·have := h.1.1 k e2.symm; omega
  ·have := ((Kd.S_R h.2).1 k e2.symm).1; omega
 ·have := h.1.1 k e2.symm; omega
 ·have := hv.1 k e2.symm; omega
theorem BkS.appB {w0 W W2 : World} {lo hi : Nat} {v0 v1 v2 : Value} {l0 : List ByteArray} {l1 l2 : List S56} (h : BkS w0 W lo hi v0 v1 l0 l1) (hs : Kd.S k56 56 W2 w0.heap.size (fun k => lo ≤ k ∧ some k ≠ v0.ownBlock) v2 l2) (hk : Kept W W2 (fun k => some k = v1.ownBlock)) (hW : hi ≤ W2.heap.size) : BkS w0 W2 lo W2.heap.size v0 v2 l0 l2 := by
 refine ⟨Kd.R_mono (Kd.R_kept (Kd.R_tight rfl h.1) hk (fun k e e2 => ((Kd.S_R h.2).1 k e2.symm).2 e)) (fun k e => ?_), Kd.S_mono (Kd.S_bound hs) (fun k e => ⟨⟨e.1.1, e.2.2.1⟩, e.1.2⟩)⟩
 have := h.1.1 k e.symm; omega
theorem BkS.sorted {w0 W W2 : World} {lo hi g n c : Nat} {v0 : Value} {l0 : List ByteArray} {l1 l2 : List S56} (h : BkS w0 W lo hi v0 (.slice (some ⟨g, 0, none⟩) n c) l0 l1) (hs : Kd.S k56 56 W2 w0.heap.size (fun k => (lo ≤ k ∧ k < hi) ∧ some k ≠ v0.ownBlock) (.slice (some ⟨g, 0, none⟩) n c) l2) (hk : Kept W W2 (fun k => k = g)) : BkS w0 W2 lo hi v0 (.slice (some ⟨g, 0, none⟩) n c) l0 l2 :=
 ⟨Kd.R_mono (Kd.R_kept (Kd.R_tight rfl h.1) hk (fun k e e2 => ((Kd.S_R h.2).1 g rfl).2 (by rw [← e2]; exact e))) (fun k e => h.1.1 k e.symm), hs⟩
open Classical in
noncomputable def impl_ShareEnter.f (k : Nat) (l0 : List ByteArray) (l1 : List S56) (a1 : ByteArray) (l2 : List ByteArray) : Option (List ByteArray × List S56 × Int) :=
 (impl_ShareBookOk.f k l0 l1).bind fun ok => if ok = true then (impl_copyBook.f k l0 l1).bind fun c => (impl_name.f k a1).bind fun nm => if nm = true then (impl_of.f k l2 l0).bind fun q => if q = true then (impl_ShareBook_at.f l0 l1 a1).bind fun i => if 0 ≤ i then some (c.1, c.2, 3) else if l1.length = 5 then some (c.1, c.2, 4) else (slices_Clone_string_string.f l2).bind fun nd => if c.2.length ≤ 11 ∧ Asc (insB c.2 ⟨a1, [], nd⟩) then some (c.1, insB c.2 ⟨a1, [], nd⟩, 0) else none else some (c.1, c.2, 2) else some (c.1, c.2, 2) else some ([], [], 1)
set_option maxHeartbeats 8000000 in
set_option maxRecDepth 100000 in
theorem impl_ShareEnter.calls (k : Nat) (A0_0 : Option Addr) (c0_0 : Nat) (l0 : List ByteArray) (A0_1 : Option Addr) (c0_1 : Nat) (l1 : List S56) (a1 : ByteArray) (A2 : Option Addr) (c2 : Nat) (l2 : List ByteArray) (r1 : List ByteArray) (r2 : List S56) (r3 : Int) (w : World) (hr0_0 : Kd.C Kd.string w A0_0 l0.length l0) (hc0_0 : l0.length ≤ c0_0) (hr0_1 : Kd.C k56 w A0_1 l1.length l1) (hc0_1 : l1.length ≤ c0_1) (hr2 : Kd.C Kd.string w A2 l2.length l2) (hc2 : l2.length ≤ c2) (h : impl_ShareEnter.f k l0 l1 a1 l2 = some (r1, r2, r3)) :
  Calls Try.prog 60 #[.agg #[.slice A0_0 l0.length c0_0, .slice A0_1 l1.length c0_1], .string a1, .slice A2 l2.length c2] w fun e w' => ∃ v0_ v1_ : Value, e = .returned (.tuple #[.agg #[v0_, v1_], .int .i64 r3]) ∧ Kd.R Kd.string 9 w' w.heap.size (fun _ => True) v0_ r1 ∧ Kd.S k56 56 w' w.heap.size (fun k_ => some k_ ≠ (v0_ : Value).ownBlock) v1_ r2 ∧ Below w.heap.size w w' := by
 have hu31 := Try.underlying31
 have hu56 := Try.underlying56
 have HR0_0 := Aside0.mk hr0_0
 have HC0_0 := Aside0.mk hc0_0
 clear hr0_0 hc0_0
 have HR0_1 := Aside0.mk hr0_1
 have HC0_1 := Aside0.mk hc0_1
 clear hr0_1 hc0_1
 have HR2 := Aside0.mk hr2
 have HC2 := Aside0.mk hc2
 clear hr2 hc2
 have HB := Aside0.mk (Below.refl w.heap.size w)
 unfold impl_ShareEnter.f at h
 have H := h
 clear h
 have H2 := Option.bind_eq_some_iff.mp H
 clear H
 obtain ⟨ok, D1_, H⟩ := H2
 have D1 := Aside0.mk D1_
 clear D1_
 by_cases c1 : ok = false
 ·subst c1
  rw [if_neg (by simp)] at H
  simp only [Option.some.injEq, Prod.mk.injEq] at H
  obtain ⟨rfl, rfl, rfl⟩ := H
  go_enter Try.func60, Try.ntmps60
  go_wp2_with (first | ((with_reducible refine gate_dst (N := 3) rfl ?_); refine box_event ?hg (N := 3) ?hd (cs := #[.slice A0_0 l0.length c0_0, .slice A0_1 l1.length c0_1]) (t := 31) ?hr ?_; (case hd => rfl); (case hg => rfl); (case hr => first | (go_simp; done) | (go_simp; rfl)); intro gb3 hg_ W1 hbox hb; have hk_ : Kept w W1 (fun _ => False) := Kept.noth hb; have LEW1 := Aside0.mk (show w.heap.size ≤ W1.heap.size from hk_.1); have GE3 := Aside0.mk (show w.heap.size ≤ gb3 from Nat.le_trans HB.1.size (Nat.le_of_eq hg_.symm)); have GL3 := Aside0.mk (show w.heap.size ≤ gb3 from Nat.le_of_eq hg_.symm); have GH3 := Aside0.mk (show gb3 < W1.heap.size from blk_lt hbox); have n_ := Aside0.mk (below_step HB.1 hb); clear HB; have HB := n_; clear n_; have BK3 := Aside0.mk hbox; clear hb hbox hg_ hk_; (try clear hcz3_0 hcz3_1 hfz3_0 hfz3_1); have hcz3_0 : W1.cell? ⟨gb3, 0, none⟩ = some (.slice A0_0 l0.length c0_0) := (blk_cell BK3.1 0).trans rfl; have hcz3_1 : W1.cell? ⟨gb3, 1, none⟩ = some (.slice A0_1 l1.length c0_1) := (blk_cell BK3.1 1).trans rfl; have hfz3_0 := blk_frozen BK3.1 0; have hfz3_1 := blk_frozen BK3.1 1) | ((with_reducible refine gate_dst (N := 6) rfl ?_); refine box_event ?hg (N := 6) ?hd (cs := #[.slice none 0 0, .slice none 0 0]) (t := 31) ?hr ?_; (case hd => rfl); (case hg => rfl); (case hr => first | (go_simp; done) | (go_simp; rfl)); intro gb6 hg_ W2 hbox hb; have hk_ : Kept W1 W2 (fun _ => False) := Kept.noth hb; have LEW2 := Aside0.mk (show W1.heap.size ≤ W2.heap.size from hk_.1); have GE6 := Aside0.mk (show w.heap.size ≤ gb6 from Nat.le_trans HB.1.size (Nat.le_of_eq hg_.symm)); have GL6 := Aside0.mk (show W1.heap.size ≤ gb6 from Nat.le_of_eq hg_.symm); have GH6 := Aside0.mk (show gb6 < W2.heap.size from blk_lt hbox); have nb3_ := Aside0.mk (blk_kept BK3.1 hk_ (fun h => h)); clear BK3; have BK3 := nb3_; clear nb3_; have n_ := Aside0.mk (below_step HB.1 hb); clear HB; have HB := n_; clear n_; have BK6 := Aside0.mk hbox; clear hb hbox hg_ hk_; have nb6_3 : gb6 ≠ gb3 := (by have := LEW1.1; have := GL3.1; have := GH3.1; have := LEW2.1; have := GL6.1; have := GH6.1;  omega); have nb3_6 : gb3 ≠ gb6 := (by have := LEW1.1; have := GL3.1; have := GH3.1; have := LEW2.1; have := GL6.1; have := GH6.1;  omega); (try clear hcz6_0 hcz6_1 hfz6_0 hfz6_1); have hcz6_0 : W2.cell? ⟨gb6, 0, none⟩ = some (.slice none 0 0) := (blk_cell BK6.1 0).trans rfl; have hcz6_1 : W2.cell? ⟨gb6, 1, none⟩ = some (.slice none 0 0) := (blk_cell BK6.1 1).trans rfl; have hfz6_0 := blk_frozen BK6.1 0; have hfz6_1 := blk_frozen BK6.1 1; (try clear hcz3_0 hcz3_1 hfz3_0 hfz3_1); have hcz3_0 : W2.cell? ⟨gb3, 0, none⟩ = some (.slice A0_0 l0.length c0_0) := (blk_cell BK3.1 0).trans rfl; have hcz3_1 : W2.cell? ⟨gb3, 1, none⟩ = some (.slice A0_1 l1.length c0_1) := (blk_cell BK3.1 1).trans rfl; have hfz3_0 := blk_frozen BK3.1 0; have hfz3_1 := blk_frozen BK3.1 1) | ((with_reducible refine gate_callee (f := 24) rfl ?_); refine goesL_ (some 10) rfl rfl Try.func24 (by kernel_rfl) rfl #[.agg #[.slice A0_0 l0.length c0_0, .slice A0_1 l1.length c0_1]] rfl (pY36) ?_; (refine (impl_ShareBookOk.calls k _ _ l0 _ _ l1 false _ (Kd.C_below HR0_0.1 HB.1) HC0_0.1 (Kd.C_below HR0_1.1 HB.1) HC0_1.1 D1.1).mono ?_); rintro e_ W3 ⟨rfl, hb⟩; refine ⟨_, rfl, ?_⟩; have HB0 := Aside0.mk (show w.heap.size ≤ W2.heap.size from HB.1.size); have hk_ : Kept W2 W3 (fun _ => False) := Kept.noth hb; have LEW3 := Aside0.mk (show W2.heap.size ≤ W3.heap.size from hk_.1); have nb3_ := Aside0.mk (blk_kept BK3.1 hk_ (fun h => h)); have nb6_ := Aside0.mk (blk_kept BK6.1 hk_ (fun h => h)); clear BK3 BK6; have BK3 := nb3_; have BK6 := nb6_; clear nb3_ nb6_; have n_ := Aside0.mk (below_step (HB.1) hb); clear HB; have HB := n_; clear n_; (try clear hb); (try clear hk_); (try clear hkk); (try clear hbb); (try clear hcz3_0 hcz3_1 hfz3_0 hfz3_1); have hcz3_0 : W3.cell? ⟨gb3, 0, none⟩ = some (.slice A0_0 l0.length c0_0) := (blk_cell BK3.1 0).trans rfl; have hcz3_1 : W3.cell? ⟨gb3, 1, none⟩ = some (.slice A0_1 l1.length c0_1) := (blk_cell BK3.1 1).trans rfl; have hfz3_0 := blk_frozen BK3.1 0; have hfz3_1 := blk_frozen BK3.1 1; (try clear hcz6_0 hcz6_1 hfz6_0 hfz6_1); have hcz6_0 : W3.cell? ⟨gb6, 0, none⟩ = some (.slice none 0 0) := (blk_cell BK6.1 0).trans rfl; have hcz6_1 : W3.cell? ⟨gb6, 1, none⟩ = some (.slice none 0 0) := (blk_cell BK6.1 1).trans rfl; have hfz6_0 := blk_frozen BK6.1 0; have hfz6_1 := blk_frozen BK6.1 1; (try clear HB0)))
  (try simp only [Exit.inBlock, Exit.then]); refine bodyPost_ret (results_ct rfl _ _ gb6 31 #[.slice none 0 0, .slice none 0 0] (0, 0) _ rfl (blk_put (cs := #[.slice none 0 0, .slice none 0 0]) (blk_put (cs := #[.slice none 0 0, .slice none 0 0]) (BK6.1) 0 _ rfl) 1 _ rfl) Try.underlying31 rfl (by kernel_rfl)) rfl ?_
  exact ⟨_, _, rfl, Kd.R_nil _ _ _ _ _, Kd.S_nil _ _ _ _ _, below_set (below_set HB.1 GE6.1) GE6.1⟩
 have c1 : ok = true := by simpa using c1
 rw [if_pos c1] at H
 subst c1
 have H2 := Option.bind_eq_some_iff.mp H
 clear H
 obtain ⟨⟨c1a, c1b⟩, D2_, H⟩ := H2
 have D2 := Aside0.mk D2_
 clear D2_
 have H2 := Option.bind_eq_some_iff.mp H
 clear H
 obtain ⟨nm, D3_, H⟩ := H2
 have D3 := Aside0.mk D3_
 clear D3_
 dsimp only at H
 by_cases cn : nm = false
 ·subst cn
  rw [if_neg (by simp)] at H
  simp only [Option.some.injEq, Prod.mk.injEq] at H
  obtain ⟨rfl, rfl, rfl⟩ := H
  go_enter Try.func60, Try.ntmps60
  go_wp2_with (first | ((with_reducible refine gate_dst (N := 3) rfl ?_); refine box_event ?hg (N := 3) ?hd (cs := #[.slice A0_0 l0.length c0_0, .slice A0_1 l1.length c0_1]) (t := 31) ?hr ?_; (case hd => rfl); (case hg => rfl); (case hr => first | (go_simp; done) | (go_simp; rfl)); intro gb3 hg_ W1 hbox hb; have hk_ : Kept w W1 (fun _ => False) := Kept.noth hb; have LEW1 := Aside0.mk (show w.heap.size ≤ W1.heap.size from hk_.1); have GE3 := Aside0.mk (show w.heap.size ≤ gb3 from Nat.le_trans HB.1.size (Nat.le_of_eq hg_.symm)); have GL3 := Aside0.mk (show w.heap.size ≤ gb3 from Nat.le_of_eq hg_.symm); have GH3 := Aside0.mk (show gb3 < W1.heap.size from blk_lt hbox); have n_ := Aside0.mk (below_step HB.1 hb); clear HB; have HB := n_; clear n_; have BK3 := Aside0.mk hbox; clear hb hbox hg_ hk_; (try clear hcz3_0 hcz3_1 hfz3_0 hfz3_1); have hcz3_0 : W1.cell? ⟨gb3, 0, none⟩ = some (.slice A0_0 l0.length c0_0) := (blk_cell BK3.1 0).trans rfl; have hcz3_1 : W1.cell? ⟨gb3, 1, none⟩ = some (.slice A0_1 l1.length c0_1) := (blk_cell BK3.1 1).trans rfl; have hfz3_0 := blk_frozen BK3.1 0; have hfz3_1 := blk_frozen BK3.1 1) | ((with_reducible refine gate_dst (N := 6) rfl ?_); refine box_event ?hg (N := 6) ?hd (cs := #[.slice none 0 0, .slice none 0 0]) (t := 31) ?hr ?_; (case hd => rfl); (case hg => rfl); (case hr => first | (go_simp; done) | (go_simp; rfl)); intro gb6 hg_ W2 hbox hb; have hk_ : Kept W1 W2 (fun _ => False) := Kept.noth hb; have LEW2 := Aside0.mk (show W1.heap.size ≤ W2.heap.size from hk_.1); have GE6 := Aside0.mk (show w.heap.size ≤ gb6 from Nat.le_trans HB.1.size (Nat.le_of_eq hg_.symm)); have GL6 := Aside0.mk (show W1.heap.size ≤ gb6 from Nat.le_of_eq hg_.symm); have GH6 := Aside0.mk (show gb6 < W2.heap.size from blk_lt hbox); have nb3_ := Aside0.mk (blk_kept BK3.1 hk_ (fun h => h)); clear BK3; have BK3 := nb3_; clear nb3_; have n_ := Aside0.mk (below_step HB.1 hb); clear HB; have HB := n_; clear n_; have BK6 := Aside0.mk hbox; clear hb hbox hg_ hk_; have nb6_3 : gb6 ≠ gb3 := (by have := LEW1.1; have := GL3.1; have := GH3.1; have := LEW2.1; have := GL6.1; have := GH6.1;  omega); have nb3_6 : gb3 ≠ gb6 := (by have := LEW1.1; have := GL3.1; have := GH3.1; have := LEW2.1; have := GL6.1; have := GH6.1;  omega); (try clear hcz6_0 hcz6_1 hfz6_0 hfz6_1); have hcz6_0 : W2.cell? ⟨gb6, 0, none⟩ = some (.slice none 0 0) := (blk_cell BK6.1 0).trans rfl; have hcz6_1 : W2.cell? ⟨gb6, 1, none⟩ = some (.slice none 0 0) := (blk_cell BK6.1 1).trans rfl; have hfz6_0 := blk_frozen BK6.1 0; have hfz6_1 := blk_frozen BK6.1 1; (try clear hcz3_0 hcz3_1 hfz3_0 hfz3_1); have hcz3_0 : W2.cell? ⟨gb3, 0, none⟩ = some (.slice A0_0 l0.length c0_0) := (blk_cell BK3.1 0).trans rfl; have hcz3_1 : W2.cell? ⟨gb3, 1, none⟩ = some (.slice A0_1 l1.length c0_1) := (blk_cell BK3.1 1).trans rfl; have hfz3_0 := blk_frozen BK3.1 0; have hfz3_1 := blk_frozen BK3.1 1) | ((with_reducible refine gate_callee (f := 24) rfl ?_); refine goesL_ (some 10) rfl rfl Try.func24 (by kernel_rfl) rfl #[.agg #[.slice A0_0 l0.length c0_0, .slice A0_1 l1.length c0_1]] rfl (pY36) ?_; (refine (impl_ShareBookOk.calls k _ _ l0 _ _ l1 true _ (Kd.C_below HR0_0.1 HB.1) HC0_0.1 (Kd.C_below HR0_1.1 HB.1) HC0_1.1 D1.1).mono ?_); rintro e_ W3 ⟨rfl, hb⟩; refine ⟨_, rfl, ?_⟩; have HB0 := Aside0.mk (show w.heap.size ≤ W2.heap.size from HB.1.size); have hk_ : Kept W2 W3 (fun _ => False) := Kept.noth hb; have LEW3 := Aside0.mk (show W2.heap.size ≤ W3.heap.size from hk_.1); have nb3_ := Aside0.mk (blk_kept BK3.1 hk_ (fun h => h)); have nb6_ := Aside0.mk (blk_kept BK6.1 hk_ (fun h => h)); clear BK3 BK6; have BK3 := nb3_; have BK6 := nb6_; clear nb3_ nb6_; have n_ := Aside0.mk (below_step (HB.1) hb); clear HB; have HB := n_; clear n_; (try clear hb); (try clear hk_); (try clear hkk); (try clear hbb); (try clear hcz3_0 hcz3_1 hfz3_0 hfz3_1); have hcz3_0 : W3.cell? ⟨gb3, 0, none⟩ = some (.slice A0_0 l0.length c0_0) := (blk_cell BK3.1 0).trans rfl; have hcz3_1 : W3.cell? ⟨gb3, 1, none⟩ = some (.slice A0_1 l1.length c0_1) := (blk_cell BK3.1 1).trans rfl; have hfz3_0 := blk_frozen BK3.1 0; have hfz3_1 := blk_frozen BK3.1 1; (try clear hcz6_0 hcz6_1 hfz6_0 hfz6_1); have hcz6_0 : W3.cell? ⟨gb6, 0, none⟩ = some (.slice none 0 0) := (blk_cell BK6.1 0).trans rfl; have hcz6_1 : W3.cell? ⟨gb6, 1, none⟩ = some (.slice none 0 0) := (blk_cell BK6.1 1).trans rfl; have hfz6_0 := blk_frozen BK6.1 0; have hfz6_1 := blk_frozen BK6.1 1; (try clear HB0)) | ((with_reducible refine gate_callee (f := 90) rfl ?_); refine goesL_ (some 14) rfl rfl Try.func90 (by kernel_rfl) rfl #[.agg #[.slice A0_0 l0.length c0_0, .slice A0_1 l1.length c0_1]] rfl (pY36) ?_; (refine (impl_copyBook.calls k _ _ l0 _ _ l1 c1a c1b _ (Kd.C_below HR0_0.1 HB.1) HC0_0.1 (Kd.C_below HR0_1.1 HB.1) HC0_1.1 D2.1).mono ?_); rintro e_ W4 ⟨_, _, rfl, ho0, ho1, hb⟩; refine ⟨_, rfl, ?_⟩; have HB0 := Aside0.mk (show w.heap.size ≤ W3.heap.size from HB.1.size); have hk_ : Kept W3 W4 (fun _ => False) := Kept.noth hb; have LEW4 := Aside0.mk (show W3.heap.size ≤ W4.heap.size from hk_.1); have nb3_ := Aside0.mk (blk_kept BK3.1 hk_ (fun h => h)); have nb6_ := Aside0.mk (blk_kept BK6.1 hk_ (fun h => h)); clear BK3 BK6; have BK3 := nb3_; have BK6 := nb6_; clear nb3_ nb6_; have n_ := Aside0.mk (below_step (HB.1) hb); clear HB; have HB := n_; clear n_; have n_ := Aside0.mk (BkS.made (n := W3.heap.size) ho0 ho1 (HB0.out) (Nat.le_refl _)); have KC := n_; clear n_ ho0 ho1; obtain ⟨Ac0, cc0, Ac1, cc1, e0_, e1_⟩ := KC.out.slices; subst e0_; subst e1_; (try clear hb); (try clear hk_); (try clear hkk); (try clear hbb); (try clear hcz3_0 hcz3_1 hfz3_0 hfz3_1); have hcz3_0 : W4.cell? ⟨gb3, 0, none⟩ = some (.slice A0_0 l0.length c0_0) := (blk_cell BK3.1 0).trans rfl; have hcz3_1 : W4.cell? ⟨gb3, 1, none⟩ = some (.slice A0_1 l1.length c0_1) := (blk_cell BK3.1 1).trans rfl; have hfz3_0 := blk_frozen BK3.1 0; have hfz3_1 := blk_frozen BK3.1 1; (try clear hcz6_0 hcz6_1 hfz6_0 hfz6_1); have hcz6_0 : W4.cell? ⟨gb6, 0, none⟩ = some (.slice none 0 0) := (blk_cell BK6.1 0).trans rfl; have hcz6_1 : W4.cell? ⟨gb6, 1, none⟩ = some (.slice none 0 0) := (blk_cell BK6.1 1).trans rfl; have hfz6_0 := blk_frozen BK6.1 0; have hfz6_1 := blk_frozen BK6.1 1; (try clear HB0)) | ((with_reducible refine gate_dst (N := 8) rfl ?_); refine box_event ?hg (N := 8) ?hd (cs := #[.slice none 0 0, .slice none 0 0]) (t := 31) ?hr ?_; (case hd => rfl); (case hg => rfl); (case hr => first | (go_simp; done) | (go_simp; rfl)); intro gb8 hg_ W5 hbox hb; have hk_ : Kept W4 W5 (fun _ => False) := Kept.noth hb; have LEW5 := Aside0.mk (show W4.heap.size ≤ W5.heap.size from hk_.1); have GE8 := Aside0.mk (show w.heap.size ≤ gb8 from Nat.le_trans HB.1.size (Nat.le_of_eq hg_.symm)); have GL8 := Aside0.mk (show W4.heap.size ≤ gb8 from Nat.le_of_eq hg_.symm); have GH8 := Aside0.mk (show gb8 < W5.heap.size from blk_lt hbox); have n0_ := Aside0.mk (BkS.kept KC.out hk_ (fun _ _ _ h => h)); have nb3_ := Aside0.mk (blk_kept BK3.1 hk_ (fun h => h)); have nb6_ := Aside0.mk (blk_kept BK6.1 hk_ (fun h => h)); clear KC BK3 BK6; have KC := n0_; have BK3 := nb3_; have BK6 := nb6_; clear n0_ nb3_ nb6_; have n_ := Aside0.mk (below_step HB.1 hb); clear HB; have HB := n_; clear n_; have BK8 := Aside0.mk hbox; clear hb hbox hg_ hk_; have nb8_3 : gb8 ≠ gb3 := (by have := LEW1.1; have := GL3.1; have := GH3.1; have := LEW2.1; have := GL6.1; have := GH6.1; have := LEW3.1; have := LEW4.1; have := LEW5.1; have := GL8.1; have := GH8.1;  omega); have nb3_8 : gb3 ≠ gb8 := (by have := LEW1.1; have := GL3.1; have := GH3.1; have := LEW2.1; have := GL6.1; have := GH6.1; have := LEW3.1; have := LEW4.1; have := LEW5.1; have := GL8.1; have := GH8.1;  omega); have nb8_6 : gb8 ≠ gb6 := (by have := LEW1.1; have := GL3.1; have := GH3.1; have := LEW2.1; have := GL6.1; have := GH6.1; have := LEW3.1; have := LEW4.1; have := LEW5.1; have := GL8.1; have := GH8.1;  omega); have nb6_8 : gb6 ≠ gb8 := (by have := LEW1.1; have := GL3.1; have := GH3.1; have := LEW2.1; have := GL6.1; have := GH6.1; have := LEW3.1; have := LEW4.1; have := LEW5.1; have := GL8.1; have := GH8.1;  omega); (try clear hcz8_0 hcz8_1 hfz8_0 hfz8_1); have hcz8_0 : W5.cell? ⟨gb8, 0, none⟩ = some (.slice none 0 0) := (blk_cell BK8.1 0).trans rfl; have hcz8_1 : W5.cell? ⟨gb8, 1, none⟩ = some (.slice none 0 0) := (blk_cell BK8.1 1).trans rfl; have hfz8_0 := blk_frozen BK8.1 0; have hfz8_1 := blk_frozen BK8.1 1; (try clear hcz3_0 hcz3_1 hfz3_0 hfz3_1); have hcz3_0 : W5.cell? ⟨gb3, 0, none⟩ = some (.slice A0_0 l0.length c0_0) := (blk_cell BK3.1 0).trans rfl; have hcz3_1 : W5.cell? ⟨gb3, 1, none⟩ = some (.slice A0_1 l1.length c0_1) := (blk_cell BK3.1 1).trans rfl; have hfz3_0 := blk_frozen BK3.1 0; have hfz3_1 := blk_frozen BK3.1 1; (try clear hcz6_0 hcz6_1 hfz6_0 hfz6_1); have hcz6_0 : W5.cell? ⟨gb6, 0, none⟩ = some (.slice none 0 0) := (blk_cell BK6.1 0).trans rfl; have hcz6_1 : W5.cell? ⟨gb6, 1, none⟩ = some (.slice none 0 0) := (blk_cell BK6.1 1).trans rfl; have hfz6_0 := blk_frozen BK6.1 0; have hfz6_1 := blk_frozen BK6.1 1) | ((with_reducible refine gate_callee (f := 77) rfl ?_); refine goesL_ (some 17) rfl rfl Try.func77 (by kernel_rfl) rfl #[.string a1] rfl (pY36) ?_; (refine (impl_name.calls k a1 false _ D3.1).mono ?_); rintro e_ W6 ⟨rfl, hb⟩; refine ⟨_, rfl, ?_⟩; obtain ⟨nd_, hd_⟩ := hb; have hb : Below ((W5.setCell ⟨gb8, 0, none⟩ (.slice Ac0 c1a.length cc0)).setCell ⟨gb8, 1, none⟩ (.slice Ac1 c1b.length cc1)).heap.size ((W5.setCell ⟨gb8, 0, none⟩ (.slice Ac0 c1a.length cc0)).setCell ⟨gb8, 1, none⟩ (.slice Ac1 c1b.length cc1)) W6 := hd_ ▸ pw_below_drewN (Below.refl _ _) nd_; clear hd_ nd_; have HB0 := Aside0.mk (show w.heap.size ≤ W5.heap.size from HB.1.size); have hk_ : Kept W5 W6 (fun k => k = gb8) := (Kept.two (w := W5) (g := gb8) 0 1 (.slice Ac0 c1a.length cc0) (.slice Ac1 c1b.length cc1)).below hb; have LEW6 := Aside0.mk (show W5.heap.size ≤ W6.heap.size from hk_.1); have n0_ := Aside0.mk (BkS.kept KC.out hk_ (fun k_ h1_ h2_ e_ => by have := LEW1.1; have := GL3.1; have := GH3.1; have := LEW2.1; have := GL6.1; have := GH6.1; have := LEW3.1; have := LEW4.1; have := LEW5.1; have := GL8.1; have := GH8.1;  omega)); have nb3_ := Aside0.mk (blk_kept BK3.1 hk_ (fun e_ => by have := LEW1.1; have := GL3.1; have := GH3.1; have := LEW2.1; have := GL6.1; have := GH6.1; have := LEW3.1; have := LEW4.1; have := LEW5.1; have := GL8.1; have := GH8.1;  omega)); have nb6_ := Aside0.mk (blk_kept BK6.1 hk_ (fun e_ => by have := LEW1.1; have := GL3.1; have := GH3.1; have := LEW2.1; have := GL6.1; have := GH6.1; have := LEW3.1; have := LEW4.1; have := LEW5.1; have := GL8.1; have := GH8.1;  omega)); clear KC BK3 BK6; have KC := n0_; have BK3 := nb3_; have BK6 := nb6_; clear n0_ nb3_ nb6_; have nb_ := Aside0.mk (blk_below (g := gb8) (o := .cells #[.slice Ac0 c1a.length cc0, .slice Ac1 c1b.length cc1] 31 (0, 0)) (blk_put (cs := #[.slice Ac0 c1a.length cc0, .slice none 0 0]) (blk_put (cs := #[.slice none 0 0, .slice none 0 0]) BK8.1 0 _ rfl) 1 _ rfl) hb); clear BK8; have BK8 := nb_; clear nb_; have n_ := Aside0.mk (below_step (below_set (below_set HB.1 GE8.1) GE8.1) hb); clear HB; have HB := n_; clear n_; (try clear hb); (try clear hk_); (try clear hkk); (try clear hbb); (try clear hcz8_0 hcz8_1 hfz8_0 hfz8_1); have hcz8_0 : W6.cell? ⟨gb8, 0, none⟩ = some (.slice Ac0 c1a.length cc0) := (blk_cell BK8.1 0).trans rfl; have hcz8_1 : W6.cell? ⟨gb8, 1, none⟩ = some (.slice Ac1 c1b.length cc1) := (blk_cell BK8.1 1).trans rfl; have hfz8_0 := blk_frozen BK8.1 0; have hfz8_1 := blk_frozen BK8.1 1; (try clear hcz6_0 hcz6_1 hfz6_0 hfz6_1); have hcz6_0 : W6.cell? ⟨gb6, 0, none⟩ = some (.slice none 0 0) := (blk_cell BK6.1 0).trans rfl; have hcz6_1 : W6.cell? ⟨gb6, 1, none⟩ = some (.slice none 0 0) := (blk_cell BK6.1 1).trans rfl; have hfz6_0 := blk_frozen BK6.1 0; have hfz6_1 := blk_frozen BK6.1 1; (try clear HB0)))
  (try simp only [Exit.inBlock, Exit.then]); refine bodyPost_ret (results_ct rfl _ _ gb6 31 #[.slice Ac0 c1a.length cc0, .slice Ac1 c1b.length cc1] (0, 0) _ rfl (blk_put (cs := #[.slice Ac0 c1a.length cc0, .slice none 0 0]) (blk_put (cs := #[.slice none 0 0, .slice none 0 0]) (BK6.1) 0 _ rfl) 1 _ rfl) Try.underlying31 rfl (by kernel_rfl)) rfl ?_
  have hK_ := BkS.kept KC.out (Kept.two (w := W6) (g := gb6) 0 1 (.slice Ac0 c1a.length cc0) (.slice Ac1 c1b.length cc1)) (fun k_ h1_ h2_ e_ => by have := LEW1.1; have := GL3.1; have := GH3.1; have := LEW2.1; have := GL6.1; have := GH6.1; have := LEW3.1; have := LEW4.1; have := LEW5.1; have := GL8.1; have := GH8.1; have := LEW6.1;  omega)
  exact ⟨_, _, rfl, Kd.R_mono hK_.1 (fun _ _ => trivial), Kd.S_mono hK_.2 (fun _ h_ => h_.2), below_set (below_set HB.1 GE6.1) GE6.1⟩
 have cn : nm = true := by simpa using cn
 rw [if_pos cn] at H
 subst cn
 have H2 := Option.bind_eq_some_iff.mp H
 clear H
 obtain ⟨q, D4_, H⟩ := H2
 have D4 := Aside0.mk D4_
 clear D4_
 by_cases cq : q = false
 ·subst cq
  rw [if_neg (by simp)] at H
  simp only [Option.some.injEq, Prod.mk.injEq] at H
  obtain ⟨rfl, rfl, rfl⟩ := H
  go_enter Try.func60, Try.ntmps60
  go_wp2_with (first | ((with_reducible refine gate_dst (N := 3) rfl ?_); refine box_event ?hg (N := 3) ?hd (cs := #[.slice A0_0 l0.length c0_0, .slice A0_1 l1.length c0_1]) (t := 31) ?hr ?_; (case hd => rfl); (case hg => rfl); (case hr => first | (go_simp; done) | (go_simp; rfl)); intro gb3 hg_ W1 hbox hb; have hk_ : Kept w W1 (fun _ => False) := Kept.noth hb; have LEW1 := Aside0.mk (show w.heap.size ≤ W1.heap.size from hk_.1); have GE3 := Aside0.mk (show w.heap.size ≤ gb3 from Nat.le_trans HB.1.size (Nat.le_of_eq hg_.symm)); have GL3 := Aside0.mk (show w.heap.size ≤ gb3 from Nat.le_of_eq hg_.symm); have GH3 := Aside0.mk (show gb3 < W1.heap.size from blk_lt hbox); have n_ := Aside0.mk (below_step HB.1 hb); clear HB; have HB := n_; clear n_; have BK3 := Aside0.mk hbox; clear hb hbox hg_ hk_; (try clear hcz3_0 hcz3_1 hfz3_0 hfz3_1); have hcz3_0 : W1.cell? ⟨gb3, 0, none⟩ = some (.slice A0_0 l0.length c0_0) := (blk_cell BK3.1 0).trans rfl; have hcz3_1 : W1.cell? ⟨gb3, 1, none⟩ = some (.slice A0_1 l1.length c0_1) := (blk_cell BK3.1 1).trans rfl; have hfz3_0 := blk_frozen BK3.1 0; have hfz3_1 := blk_frozen BK3.1 1) | ((with_reducible refine gate_dst (N := 6) rfl ?_); refine box_event ?hg (N := 6) ?hd (cs := #[.slice none 0 0, .slice none 0 0]) (t := 31) ?hr ?_; (case hd => rfl); (case hg => rfl); (case hr => first | (go_simp; done) | (go_simp; rfl)); intro gb6 hg_ W2 hbox hb; have hk_ : Kept W1 W2 (fun _ => False) := Kept.noth hb; have LEW2 := Aside0.mk (show W1.heap.size ≤ W2.heap.size from hk_.1); have GE6 := Aside0.mk (show w.heap.size ≤ gb6 from Nat.le_trans HB.1.size (Nat.le_of_eq hg_.symm)); have GL6 := Aside0.mk (show W1.heap.size ≤ gb6 from Nat.le_of_eq hg_.symm); have GH6 := Aside0.mk (show gb6 < W2.heap.size from blk_lt hbox); have nb3_ := Aside0.mk (blk_kept BK3.1 hk_ (fun h => h)); clear BK3; have BK3 := nb3_; clear nb3_; have n_ := Aside0.mk (below_step HB.1 hb); clear HB; have HB := n_; clear n_; have BK6 := Aside0.mk hbox; clear hb hbox hg_ hk_; have nb6_3 : gb6 ≠ gb3 := (by have := LEW1.1; have := GL3.1; have := GH3.1; have := LEW2.1; have := GL6.1; have := GH6.1;  omega); have nb3_6 : gb3 ≠ gb6 := (by have := LEW1.1; have := GL3.1; have := GH3.1; have := LEW2.1; have := GL6.1; have := GH6.1;  omega); (try clear hcz6_0 hcz6_1 hfz6_0 hfz6_1); have hcz6_0 : W2.cell? ⟨gb6, 0, none⟩ = some (.slice none 0 0) := (blk_cell BK6.1 0).trans rfl; have hcz6_1 : W2.cell? ⟨gb6, 1, none⟩ = some (.slice none 0 0) := (blk_cell BK6.1 1).trans rfl; have hfz6_0 := blk_frozen BK6.1 0; have hfz6_1 := blk_frozen BK6.1 1; (try clear hcz3_0 hcz3_1 hfz3_0 hfz3_1); have hcz3_0 : W2.cell? ⟨gb3, 0, none⟩ = some (.slice A0_0 l0.length c0_0) := (blk_cell BK3.1 0).trans rfl; have hcz3_1 : W2.cell? ⟨gb3, 1, none⟩ = some (.slice A0_1 l1.length c0_1) := (blk_cell BK3.1 1).trans rfl; have hfz3_0 := blk_frozen BK3.1 0; have hfz3_1 := blk_frozen BK3.1 1) | ((with_reducible refine gate_callee (f := 24) rfl ?_); refine goesL_ (some 10) rfl rfl Try.func24 (by kernel_rfl) rfl #[.agg #[.slice A0_0 l0.length c0_0, .slice A0_1 l1.length c0_1]] rfl (pY36) ?_; (refine (impl_ShareBookOk.calls k _ _ l0 _ _ l1 true _ (Kd.C_below HR0_0.1 HB.1) HC0_0.1 (Kd.C_below HR0_1.1 HB.1) HC0_1.1 D1.1).mono ?_); rintro e_ W3 ⟨rfl, hb⟩; refine ⟨_, rfl, ?_⟩; have HB0 := Aside0.mk (show w.heap.size ≤ W2.heap.size from HB.1.size); have hk_ : Kept W2 W3 (fun _ => False) := Kept.noth hb; have LEW3 := Aside0.mk (show W2.heap.size ≤ W3.heap.size from hk_.1); have nb3_ := Aside0.mk (blk_kept BK3.1 hk_ (fun h => h)); have nb6_ := Aside0.mk (blk_kept BK6.1 hk_ (fun h => h)); clear BK3 BK6; have BK3 := nb3_; have BK6 := nb6_; clear nb3_ nb6_; have n_ := Aside0.mk (below_step (HB.1) hb); clear HB; have HB := n_; clear n_; (try clear hb); (try clear hk_); (try clear hkk); (try clear hbb); (try clear hcz3_0 hcz3_1 hfz3_0 hfz3_1); have hcz3_0 : W3.cell? ⟨gb3, 0, none⟩ = some (.slice A0_0 l0.length c0_0) := (blk_cell BK3.1 0).trans rfl; have hcz3_1 : W3.cell? ⟨gb3, 1, none⟩ = some (.slice A0_1 l1.length c0_1) := (blk_cell BK3.1 1).trans rfl; have hfz3_0 := blk_frozen BK3.1 0; have hfz3_1 := blk_frozen BK3.1 1; (try clear hcz6_0 hcz6_1 hfz6_0 hfz6_1); have hcz6_0 : W3.cell? ⟨gb6, 0, none⟩ = some (.slice none 0 0) := (blk_cell BK6.1 0).trans rfl; have hcz6_1 : W3.cell? ⟨gb6, 1, none⟩ = some (.slice none 0 0) := (blk_cell BK6.1 1).trans rfl; have hfz6_0 := blk_frozen BK6.1 0; have hfz6_1 := blk_frozen BK6.1 1; (try clear HB0)) | ((with_reducible refine gate_callee (f := 90) rfl ?_); refine goesL_ (some 14) rfl rfl Try.func90 (by kernel_rfl) rfl #[.agg #[.slice A0_0 l0.length c0_0, .slice A0_1 l1.length c0_1]] rfl (pY36) ?_; (refine (impl_copyBook.calls k _ _ l0 _ _ l1 c1a c1b _ (Kd.C_below HR0_0.1 HB.1) HC0_0.1 (Kd.C_below HR0_1.1 HB.1) HC0_1.1 D2.1).mono ?_); rintro e_ W4 ⟨_, _, rfl, ho0, ho1, hb⟩; refine ⟨_, rfl, ?_⟩; have HB0 := Aside0.mk (show w.heap.size ≤ W3.heap.size from HB.1.size); have hk_ : Kept W3 W4 (fun _ => False) := Kept.noth hb; have LEW4 := Aside0.mk (show W3.heap.size ≤ W4.heap.size from hk_.1); have nb3_ := Aside0.mk (blk_kept BK3.1 hk_ (fun h => h)); have nb6_ := Aside0.mk (blk_kept BK6.1 hk_ (fun h => h)); clear BK3 BK6; have BK3 := nb3_; have BK6 := nb6_; clear nb3_ nb6_; have n_ := Aside0.mk (below_step (HB.1) hb); clear HB; have HB := n_; clear n_; have n_ := Aside0.mk (BkS.made (n := W3.heap.size) ho0 ho1 (HB0.out) (Nat.le_refl _)); have KC := n_; clear n_ ho0 ho1; obtain ⟨Ac0, cc0, Ac1, cc1, e0_, e1_⟩ := KC.out.slices; subst e0_; subst e1_; (try clear hb); (try clear hk_); (try clear hkk); (try clear hbb); (try clear hcz3_0 hcz3_1 hfz3_0 hfz3_1); have hcz3_0 : W4.cell? ⟨gb3, 0, none⟩ = some (.slice A0_0 l0.length c0_0) := (blk_cell BK3.1 0).trans rfl; have hcz3_1 : W4.cell? ⟨gb3, 1, none⟩ = some (.slice A0_1 l1.length c0_1) := (blk_cell BK3.1 1).trans rfl; have hfz3_0 := blk_frozen BK3.1 0; have hfz3_1 := blk_frozen BK3.1 1; (try clear hcz6_0 hcz6_1 hfz6_0 hfz6_1); have hcz6_0 : W4.cell? ⟨gb6, 0, none⟩ = some (.slice none 0 0) := (blk_cell BK6.1 0).trans rfl; have hcz6_1 : W4.cell? ⟨gb6, 1, none⟩ = some (.slice none 0 0) := (blk_cell BK6.1 1).trans rfl; have hfz6_0 := blk_frozen BK6.1 0; have hfz6_1 := blk_frozen BK6.1 1; (try clear HB0)) | ((with_reducible refine gate_dst (N := 8) rfl ?_); refine box_event ?hg (N := 8) ?hd (cs := #[.slice none 0 0, .slice none 0 0]) (t := 31) ?hr ?_; (case hd => rfl); (case hg => rfl); (case hr => first | (go_simp; done) | (go_simp; rfl)); intro gb8 hg_ W5 hbox hb; have hk_ : Kept W4 W5 (fun _ => False) := Kept.noth hb; have LEW5 := Aside0.mk (show W4.heap.size ≤ W5.heap.size from hk_.1); have GE8 := Aside0.mk (show w.heap.size ≤ gb8 from Nat.le_trans HB.1.size (Nat.le_of_eq hg_.symm)); have GL8 := Aside0.mk (show W4.heap.size ≤ gb8 from Nat.le_of_eq hg_.symm); have GH8 := Aside0.mk (show gb8 < W5.heap.size from blk_lt hbox); have n0_ := Aside0.mk (BkS.kept KC.out hk_ (fun _ _ _ h => h)); have nb3_ := Aside0.mk (blk_kept BK3.1 hk_ (fun h => h)); have nb6_ := Aside0.mk (blk_kept BK6.1 hk_ (fun h => h)); clear KC BK3 BK6; have KC := n0_; have BK3 := nb3_; have BK6 := nb6_; clear n0_ nb3_ nb6_; have n_ := Aside0.mk (below_step HB.1 hb); clear HB; have HB := n_; clear n_; have BK8 := Aside0.mk hbox; clear hb hbox hg_ hk_; have nb8_3 : gb8 ≠ gb3 := (by have := LEW1.1; have := GL3.1; have := GH3.1; have := LEW2.1; have := GL6.1; have := GH6.1; have := LEW3.1; have := LEW4.1; have := LEW5.1; have := GL8.1; have := GH8.1;  omega); have nb3_8 : gb3 ≠ gb8 := (by have := LEW1.1; have := GL3.1; have := GH3.1; have := LEW2.1; have := GL6.1; have := GH6.1; have := LEW3.1; have := LEW4.1; have := LEW5.1; have := GL8.1; have := GH8.1;  omega); have nb8_6 : gb8 ≠ gb6 := (by have := LEW1.1; have := GL3.1; have := GH3.1; have := LEW2.1; have := GL6.1; have := GH6.1; have := LEW3.1; have := LEW4.1; have := LEW5.1; have := GL8.1; have := GH8.1;  omega); have nb6_8 : gb6 ≠ gb8 := (by have := LEW1.1; have := GL3.1; have := GH3.1; have := LEW2.1; have := GL6.1; have := GH6.1; have := LEW3.1; have := LEW4.1; have := LEW5.1; have := GL8.1; have := GH8.1;  omega); (try clear hcz8_0 hcz8_1 hfz8_0 hfz8_1); have hcz8_0 : W5.cell? ⟨gb8, 0, none⟩ = some (.slice none 0 0) := (blk_cell BK8.1 0).trans rfl; have hcz8_1 : W5.cell? ⟨gb8, 1, none⟩ = some (.slice none 0 0) := (blk_cell BK8.1 1).trans rfl; have hfz8_0 := blk_frozen BK8.1 0; have hfz8_1 := blk_frozen BK8.1 1; (try clear hcz3_0 hcz3_1 hfz3_0 hfz3_1); have hcz3_0 : W5.cell? ⟨gb3, 0, none⟩ = some (.slice A0_0 l0.length c0_0) := (blk_cell BK3.1 0).trans rfl; have hcz3_1 : W5.cell? ⟨gb3, 1, none⟩ = some (.slice A0_1 l1.length c0_1) := (blk_cell BK3.1 1).trans rfl; have hfz3_0 := blk_frozen BK3.1 0; have hfz3_1 := blk_frozen BK3.1 1; (try clear hcz6_0 hcz6_1 hfz6_0 hfz6_1); have hcz6_0 : W5.cell? ⟨gb6, 0, none⟩ = some (.slice none 0 0) := (blk_cell BK6.1 0).trans rfl; have hcz6_1 : W5.cell? ⟨gb6, 1, none⟩ = some (.slice none 0 0) := (blk_cell BK6.1 1).trans rfl; have hfz6_0 := blk_frozen BK6.1 0; have hfz6_1 := blk_frozen BK6.1 1) | ((with_reducible refine gate_callee (f := 77) rfl ?_); refine goesL_ (some 17) rfl rfl Try.func77 (by kernel_rfl) rfl #[.string a1] rfl (pY36) ?_; (refine (impl_name.calls k a1 true _ D3.1).mono ?_); rintro e_ W6 ⟨rfl, hb⟩; refine ⟨_, rfl, ?_⟩; obtain ⟨nd_, hd_⟩ := hb; have hb : Below ((W5.setCell ⟨gb8, 0, none⟩ (.slice Ac0 c1a.length cc0)).setCell ⟨gb8, 1, none⟩ (.slice Ac1 c1b.length cc1)).heap.size ((W5.setCell ⟨gb8, 0, none⟩ (.slice Ac0 c1a.length cc0)).setCell ⟨gb8, 1, none⟩ (.slice Ac1 c1b.length cc1)) W6 := hd_ ▸ pw_below_drewN (Below.refl _ _) nd_; clear hd_ nd_; have HB0 := Aside0.mk (show w.heap.size ≤ W5.heap.size from HB.1.size); have hk_ : Kept W5 W6 (fun k => k = gb8) := (Kept.two (w := W5) (g := gb8) 0 1 (.slice Ac0 c1a.length cc0) (.slice Ac1 c1b.length cc1)).below hb; have LEW6 := Aside0.mk (show W5.heap.size ≤ W6.heap.size from hk_.1); have n0_ := Aside0.mk (BkS.kept KC.out hk_ (fun k_ h1_ h2_ e_ => by have := LEW1.1; have := GL3.1; have := GH3.1; have := LEW2.1; have := GL6.1; have := GH6.1; have := LEW3.1; have := LEW4.1; have := LEW5.1; have := GL8.1; have := GH8.1;  omega)); have nb3_ := Aside0.mk (blk_kept BK3.1 hk_ (fun e_ => by have := LEW1.1; have := GL3.1; have := GH3.1; have := LEW2.1; have := GL6.1; have := GH6.1; have := LEW3.1; have := LEW4.1; have := LEW5.1; have := GL8.1; have := GH8.1;  omega)); have nb6_ := Aside0.mk (blk_kept BK6.1 hk_ (fun e_ => by have := LEW1.1; have := GL3.1; have := GH3.1; have := LEW2.1; have := GL6.1; have := GH6.1; have := LEW3.1; have := LEW4.1; have := LEW5.1; have := GL8.1; have := GH8.1;  omega)); clear KC BK3 BK6; have KC := n0_; have BK3 := nb3_; have BK6 := nb6_; clear n0_ nb3_ nb6_; have nb_ := Aside0.mk (blk_below (g := gb8) (o := .cells #[.slice Ac0 c1a.length cc0, .slice Ac1 c1b.length cc1] 31 (0, 0)) (blk_put (cs := #[.slice Ac0 c1a.length cc0, .slice none 0 0]) (blk_put (cs := #[.slice none 0 0, .slice none 0 0]) BK8.1 0 _ rfl) 1 _ rfl) hb); clear BK8; have BK8 := nb_; clear nb_; have n_ := Aside0.mk (below_step (below_set (below_set HB.1 GE8.1) GE8.1) hb); clear HB; have HB := n_; clear n_; (try clear hb); (try clear hk_); (try clear hkk); (try clear hbb); (try clear hcz3_0 hcz3_1 hfz3_0 hfz3_1); have hcz3_0 : W6.cell? ⟨gb3, 0, none⟩ = some (.slice A0_0 l0.length c0_0) := (blk_cell BK3.1 0).trans rfl; have hcz3_1 : W6.cell? ⟨gb3, 1, none⟩ = some (.slice A0_1 l1.length c0_1) := (blk_cell BK3.1 1).trans rfl; have hfz3_0 := blk_frozen BK3.1 0; have hfz3_1 := blk_frozen BK3.1 1; (try clear hcz8_0 hcz8_1 hfz8_0 hfz8_1); have hcz8_0 : W6.cell? ⟨gb8, 0, none⟩ = some (.slice Ac0 c1a.length cc0) := (blk_cell BK8.1 0).trans rfl; have hcz8_1 : W6.cell? ⟨gb8, 1, none⟩ = some (.slice Ac1 c1b.length cc1) := (blk_cell BK8.1 1).trans rfl; have hfz8_0 := blk_frozen BK8.1 0; have hfz8_1 := blk_frozen BK8.1 1; (try clear hcz6_0 hcz6_1 hfz6_0 hfz6_1); have hcz6_0 : W6.cell? ⟨gb6, 0, none⟩ = some (.slice none 0 0) := (blk_cell BK6.1 0).trans rfl; have hcz6_1 : W6.cell? ⟨gb6, 1, none⟩ = some (.slice none 0 0) := (blk_cell BK6.1 1).trans rfl; have hfz6_0 := blk_frozen BK6.1 0; have hfz6_1 := blk_frozen BK6.1 1; (try clear HB0)) | (go_at_call 74; (refine (impl_of.calls k _ _ l2 _ _ l0 false _ (Kd.C_below HR2.1 HB.1) HC2.1 (Kd.C_below HR0_0.1 HB.1) HC0_0.1 D4.1).mono ?_); rintro e_ W7 ⟨rfl, hb⟩; obtain ⟨nd_, hd_⟩ := hb; have hb : Below W6.heap.size W6 W7 := hd_ ▸ pw_below_drewN (Below.refl _ _) nd_; clear hd_ nd_; have HB0 := Aside0.mk (show w.heap.size ≤ W6.heap.size from HB.1.size); have hk_ : Kept W6 W7 (fun _ => False) := Kept.noth hb; have LEW7 := Aside0.mk (show W6.heap.size ≤ W7.heap.size from hk_.1); have n0_ := Aside0.mk (BkS.kept KC.out hk_ (fun _ _ _ h => h)); have nb3_ := Aside0.mk (blk_kept BK3.1 hk_ (fun h => h)); have nb6_ := Aside0.mk (blk_kept BK6.1 hk_ (fun h => h)); have nb8_ := Aside0.mk (blk_kept BK8.1 hk_ (fun h => h)); clear KC BK3 BK6 BK8; have KC := n0_; have BK3 := nb3_; have BK6 := nb6_; have BK8 := nb8_; clear n0_ nb3_ nb6_ nb8_; have n_ := Aside0.mk (below_step (HB.1) hb); clear HB; have HB := n_; clear n_; (try clear hb); (try clear hk_); (try clear hkk); (try clear hbb); (try clear hcz8_0 hcz8_1 hfz8_0 hfz8_1); have hcz8_0 : W7.cell? ⟨gb8, 0, none⟩ = some (.slice Ac0 c1a.length cc0) := (blk_cell BK8.1 0).trans rfl; have hcz8_1 : W7.cell? ⟨gb8, 1, none⟩ = some (.slice Ac1 c1b.length cc1) := (blk_cell BK8.1 1).trans rfl; have hfz8_0 := blk_frozen BK8.1 0; have hfz8_1 := blk_frozen BK8.1 1; (try clear hcz6_0 hcz6_1 hfz6_0 hfz6_1); have hcz6_0 : W7.cell? ⟨gb6, 0, none⟩ = some (.slice none 0 0) := (blk_cell BK6.1 0).trans rfl; have hcz6_1 : W7.cell? ⟨gb6, 1, none⟩ = some (.slice none 0 0) := (blk_cell BK6.1 1).trans rfl; have hfz6_0 := blk_frozen BK6.1 0; have hfz6_1 := blk_frozen BK6.1 1; (try clear HB0)))
  (try simp only [Exit.inBlock, Exit.then]); refine bodyPost_ret (results_ct rfl _ _ gb6 31 #[.slice Ac0 c1a.length cc0, .slice Ac1 c1b.length cc1] (0, 0) _ rfl (blk_put (cs := #[.slice Ac0 c1a.length cc0, .slice none 0 0]) (blk_put (cs := #[.slice none 0 0, .slice none 0 0]) (BK6.1) 0 _ rfl) 1 _ rfl) Try.underlying31 rfl (by kernel_rfl)) rfl ?_
  have hK_ := BkS.kept KC.out (Kept.two (w := W7) (g := gb6) 0 1 (.slice Ac0 c1a.length cc0) (.slice Ac1 c1b.length cc1)) (fun k_ h1_ h2_ e_ => by have := LEW1.1; have := GL3.1; have := GH3.1; have := LEW2.1; have := GL6.1; have := GH6.1; have := LEW3.1; have := LEW4.1; have := LEW5.1; have := GL8.1; have := GH8.1; have := LEW6.1; have := LEW7.1;  omega)
  exact ⟨_, _, rfl, Kd.R_mono hK_.1 (fun _ _ => trivial), Kd.S_mono hK_.2 (fun _ h_ => h_.2), below_set (below_set HB.1 GE6.1) GE6.1⟩
 have cq : q = true := by simpa using cq
 rw [if_pos cq] at H
 subst cq
 have H2 := Option.bind_eq_some_iff.mp H
 clear H
 obtain ⟨i, D5_, H⟩ := H2
 have D5 := Aside0.mk D5_
 clear D5_
 by_cases ci : 0 ≤ i
 ·rw [if_pos ci] at H
  have ci0 : decide (0 ≤ i) = true := decide_eq_true ci
  have ci1 : decide (i < 0) = false := decide_eq_false (by omega)
  simp only [Option.some.injEq, Prod.mk.injEq] at H
  obtain ⟨rfl, rfl, rfl⟩ := H
  go_enter Try.func60, Try.ntmps60
  go_wp2_with (first | ((with_reducible refine gate_dst (N := 3) rfl ?_); refine box_event ?hg (N := 3) ?hd (cs := #[.slice A0_0 l0.length c0_0, .slice A0_1 l1.length c0_1]) (t := 31) ?hr ?_; (case hd => rfl); (case hg => rfl); (case hr => first | (go_simp; done) | (go_simp; rfl)); intro gb3 hg_ W1 hbox hb; have hk_ : Kept w W1 (fun _ => False) := Kept.noth hb; have LEW1 := Aside0.mk (show w.heap.size ≤ W1.heap.size from hk_.1); have GE3 := Aside0.mk (show w.heap.size ≤ gb3 from Nat.le_trans HB.1.size (Nat.le_of_eq hg_.symm)); have GL3 := Aside0.mk (show w.heap.size ≤ gb3 from Nat.le_of_eq hg_.symm); have GH3 := Aside0.mk (show gb3 < W1.heap.size from blk_lt hbox); have n_ := Aside0.mk (below_step HB.1 hb); clear HB; have HB := n_; clear n_; have BK3 := Aside0.mk hbox; clear hb hbox hg_ hk_; (try clear hcz3_0 hcz3_1 hfz3_0 hfz3_1); have hcz3_0 : W1.cell? ⟨gb3, 0, none⟩ = some (.slice A0_0 l0.length c0_0) := (blk_cell BK3.1 0).trans rfl; have hcz3_1 : W1.cell? ⟨gb3, 1, none⟩ = some (.slice A0_1 l1.length c0_1) := (blk_cell BK3.1 1).trans rfl; have hfz3_0 := blk_frozen BK3.1 0; have hfz3_1 := blk_frozen BK3.1 1) | ((with_reducible refine gate_dst (N := 6) rfl ?_); refine box_event ?hg (N := 6) ?hd (cs := #[.slice none 0 0, .slice none 0 0]) (t := 31) ?hr ?_; (case hd => rfl); (case hg => rfl); (case hr => first | (go_simp; done) | (go_simp; rfl)); intro gb6 hg_ W2 hbox hb; have hk_ : Kept W1 W2 (fun _ => False) := Kept.noth hb; have LEW2 := Aside0.mk (show W1.heap.size ≤ W2.heap.size from hk_.1); have GE6 := Aside0.mk (show w.heap.size ≤ gb6 from Nat.le_trans HB.1.size (Nat.le_of_eq hg_.symm)); have GL6 := Aside0.mk (show W1.heap.size ≤ gb6 from Nat.le_of_eq hg_.symm); have GH6 := Aside0.mk (show gb6 < W2.heap.size from blk_lt hbox); have nb3_ := Aside0.mk (blk_kept BK3.1 hk_ (fun h => h)); clear BK3; have BK3 := nb3_; clear nb3_; have n_ := Aside0.mk (below_step HB.1 hb); clear HB; have HB := n_; clear n_; have BK6 := Aside0.mk hbox; clear hb hbox hg_ hk_; have nb6_3 : gb6 ≠ gb3 := (by have := LEW1.1; have := GL3.1; have := GH3.1; have := LEW2.1; have := GL6.1; have := GH6.1;  omega); have nb3_6 : gb3 ≠ gb6 := (by have := LEW1.1; have := GL3.1; have := GH3.1; have := LEW2.1; have := GL6.1; have := GH6.1;  omega); (try clear hcz6_0 hcz6_1 hfz6_0 hfz6_1); have hcz6_0 : W2.cell? ⟨gb6, 0, none⟩ = some (.slice none 0 0) := (blk_cell BK6.1 0).trans rfl; have hcz6_1 : W2.cell? ⟨gb6, 1, none⟩ = some (.slice none 0 0) := (blk_cell BK6.1 1).trans rfl; have hfz6_0 := blk_frozen BK6.1 0; have hfz6_1 := blk_frozen BK6.1 1; (try clear hcz3_0 hcz3_1 hfz3_0 hfz3_1); have hcz3_0 : W2.cell? ⟨gb3, 0, none⟩ = some (.slice A0_0 l0.length c0_0) := (blk_cell BK3.1 0).trans rfl; have hcz3_1 : W2.cell? ⟨gb3, 1, none⟩ = some (.slice A0_1 l1.length c0_1) := (blk_cell BK3.1 1).trans rfl; have hfz3_0 := blk_frozen BK3.1 0; have hfz3_1 := blk_frozen BK3.1 1) | ((with_reducible refine gate_callee (f := 24) rfl ?_); refine goesL_ (some 10) rfl rfl Try.func24 (by kernel_rfl) rfl #[.agg #[.slice A0_0 l0.length c0_0, .slice A0_1 l1.length c0_1]] rfl (pY36) ?_; (refine (impl_ShareBookOk.calls k _ _ l0 _ _ l1 true _ (Kd.C_below HR0_0.1 HB.1) HC0_0.1 (Kd.C_below HR0_1.1 HB.1) HC0_1.1 D1.1).mono ?_); rintro e_ W3 ⟨rfl, hb⟩; refine ⟨_, rfl, ?_⟩; have HB0 := Aside0.mk (show w.heap.size ≤ W2.heap.size from HB.1.size); have hk_ : Kept W2 W3 (fun _ => False) := Kept.noth hb; have LEW3 := Aside0.mk (show W2.heap.size ≤ W3.heap.size from hk_.1); have nb3_ := Aside0.mk (blk_kept BK3.1 hk_ (fun h => h)); have nb6_ := Aside0.mk (blk_kept BK6.1 hk_ (fun h => h)); clear BK3 BK6; have BK3 := nb3_; have BK6 := nb6_; clear nb3_ nb6_; have n_ := Aside0.mk (below_step (HB.1) hb); clear HB; have HB := n_; clear n_; (try clear hb); (try clear hk_); (try clear hkk); (try clear hbb); (try clear hcz3_0 hcz3_1 hfz3_0 hfz3_1); have hcz3_0 : W3.cell? ⟨gb3, 0, none⟩ = some (.slice A0_0 l0.length c0_0) := (blk_cell BK3.1 0).trans rfl; have hcz3_1 : W3.cell? ⟨gb3, 1, none⟩ = some (.slice A0_1 l1.length c0_1) := (blk_cell BK3.1 1).trans rfl; have hfz3_0 := blk_frozen BK3.1 0; have hfz3_1 := blk_frozen BK3.1 1; (try clear hcz6_0 hcz6_1 hfz6_0 hfz6_1); have hcz6_0 : W3.cell? ⟨gb6, 0, none⟩ = some (.slice none 0 0) := (blk_cell BK6.1 0).trans rfl; have hcz6_1 : W3.cell? ⟨gb6, 1, none⟩ = some (.slice none 0 0) := (blk_cell BK6.1 1).trans rfl; have hfz6_0 := blk_frozen BK6.1 0; have hfz6_1 := blk_frozen BK6.1 1; (try clear HB0)) | ((with_reducible refine gate_callee (f := 90) rfl ?_); refine goesL_ (some 14) rfl rfl Try.func90 (by kernel_rfl) rfl #[.agg #[.slice A0_0 l0.length c0_0, .slice A0_1 l1.length c0_1]] rfl (pY36) ?_; (refine (impl_copyBook.calls k _ _ l0 _ _ l1 c1a c1b _ (Kd.C_below HR0_0.1 HB.1) HC0_0.1 (Kd.C_below HR0_1.1 HB.1) HC0_1.1 D2.1).mono ?_); rintro e_ W4 ⟨_, _, rfl, ho0, ho1, hb⟩; refine ⟨_, rfl, ?_⟩; have HB0 := Aside0.mk (show w.heap.size ≤ W3.heap.size from HB.1.size); have hk_ : Kept W3 W4 (fun _ => False) := Kept.noth hb; have LEW4 := Aside0.mk (show W3.heap.size ≤ W4.heap.size from hk_.1); have nb3_ := Aside0.mk (blk_kept BK3.1 hk_ (fun h => h)); have nb6_ := Aside0.mk (blk_kept BK6.1 hk_ (fun h => h)); clear BK3 BK6; have BK3 := nb3_; have BK6 := nb6_; clear nb3_ nb6_; have n_ := Aside0.mk (below_step (HB.1) hb); clear HB; have HB := n_; clear n_; have n_ := Aside0.mk (BkS.made (n := W3.heap.size) ho0 ho1 (HB0.out) (Nat.le_refl _)); have KC := n_; clear n_ ho0 ho1; obtain ⟨Ac0, cc0, Ac1, cc1, e0_, e1_⟩ := KC.out.slices; subst e0_; subst e1_; (try clear hb); (try clear hk_); (try clear hkk); (try clear hbb); (try clear hcz3_0 hcz3_1 hfz3_0 hfz3_1); have hcz3_0 : W4.cell? ⟨gb3, 0, none⟩ = some (.slice A0_0 l0.length c0_0) := (blk_cell BK3.1 0).trans rfl; have hcz3_1 : W4.cell? ⟨gb3, 1, none⟩ = some (.slice A0_1 l1.length c0_1) := (blk_cell BK3.1 1).trans rfl; have hfz3_0 := blk_frozen BK3.1 0; have hfz3_1 := blk_frozen BK3.1 1; (try clear hcz6_0 hcz6_1 hfz6_0 hfz6_1); have hcz6_0 : W4.cell? ⟨gb6, 0, none⟩ = some (.slice none 0 0) := (blk_cell BK6.1 0).trans rfl; have hcz6_1 : W4.cell? ⟨gb6, 1, none⟩ = some (.slice none 0 0) := (blk_cell BK6.1 1).trans rfl; have hfz6_0 := blk_frozen BK6.1 0; have hfz6_1 := blk_frozen BK6.1 1; (try clear HB0)) | ((with_reducible refine gate_dst (N := 8) rfl ?_); refine box_event ?hg (N := 8) ?hd (cs := #[.slice none 0 0, .slice none 0 0]) (t := 31) ?hr ?_; (case hd => rfl); (case hg => rfl); (case hr => first | (go_simp; done) | (go_simp; rfl)); intro gb8 hg_ W5 hbox hb; have hk_ : Kept W4 W5 (fun _ => False) := Kept.noth hb; have LEW5 := Aside0.mk (show W4.heap.size ≤ W5.heap.size from hk_.1); have GE8 := Aside0.mk (show w.heap.size ≤ gb8 from Nat.le_trans HB.1.size (Nat.le_of_eq hg_.symm)); have GL8 := Aside0.mk (show W4.heap.size ≤ gb8 from Nat.le_of_eq hg_.symm); have GH8 := Aside0.mk (show gb8 < W5.heap.size from blk_lt hbox); have n0_ := Aside0.mk (BkS.kept KC.out hk_ (fun _ _ _ h => h)); have nb3_ := Aside0.mk (blk_kept BK3.1 hk_ (fun h => h)); have nb6_ := Aside0.mk (blk_kept BK6.1 hk_ (fun h => h)); clear KC BK3 BK6; have KC := n0_; have BK3 := nb3_; have BK6 := nb6_; clear n0_ nb3_ nb6_; have n_ := Aside0.mk (below_step HB.1 hb); clear HB; have HB := n_; clear n_; have BK8 := Aside0.mk hbox; clear hb hbox hg_ hk_; have nb8_3 : gb8 ≠ gb3 := (by have := LEW1.1; have := GL3.1; have := GH3.1; have := LEW2.1; have := GL6.1; have := GH6.1; have := LEW3.1; have := LEW4.1; have := LEW5.1; have := GL8.1; have := GH8.1;  omega); have nb3_8 : gb3 ≠ gb8 := (by have := LEW1.1; have := GL3.1; have := GH3.1; have := LEW2.1; have := GL6.1; have := GH6.1; have := LEW3.1; have := LEW4.1; have := LEW5.1; have := GL8.1; have := GH8.1;  omega); have nb8_6 : gb8 ≠ gb6 := (by have := LEW1.1; have := GL3.1; have := GH3.1; have := LEW2.1; have := GL6.1; have := GH6.1; have := LEW3.1; have := LEW4.1; have := LEW5.1; have := GL8.1; have := GH8.1;  omega); have nb6_8 : gb6 ≠ gb8 := (by have := LEW1.1; have := GL3.1; have := GH3.1; have := LEW2.1; have := GL6.1; have := GH6.1; have := LEW3.1; have := LEW4.1; have := LEW5.1; have := GL8.1; have := GH8.1;  omega); (try clear hcz8_0 hcz8_1 hfz8_0 hfz8_1); have hcz8_0 : W5.cell? ⟨gb8, 0, none⟩ = some (.slice none 0 0) := (blk_cell BK8.1 0).trans rfl; have hcz8_1 : W5.cell? ⟨gb8, 1, none⟩ = some (.slice none 0 0) := (blk_cell BK8.1 1).trans rfl; have hfz8_0 := blk_frozen BK8.1 0; have hfz8_1 := blk_frozen BK8.1 1; (try clear hcz3_0 hcz3_1 hfz3_0 hfz3_1); have hcz3_0 : W5.cell? ⟨gb3, 0, none⟩ = some (.slice A0_0 l0.length c0_0) := (blk_cell BK3.1 0).trans rfl; have hcz3_1 : W5.cell? ⟨gb3, 1, none⟩ = some (.slice A0_1 l1.length c0_1) := (blk_cell BK3.1 1).trans rfl; have hfz3_0 := blk_frozen BK3.1 0; have hfz3_1 := blk_frozen BK3.1 1; (try clear hcz6_0 hcz6_1 hfz6_0 hfz6_1); have hcz6_0 : W5.cell? ⟨gb6, 0, none⟩ = some (.slice none 0 0) := (blk_cell BK6.1 0).trans rfl; have hcz6_1 : W5.cell? ⟨gb6, 1, none⟩ = some (.slice none 0 0) := (blk_cell BK6.1 1).trans rfl; have hfz6_0 := blk_frozen BK6.1 0; have hfz6_1 := blk_frozen BK6.1 1) | ((with_reducible refine gate_callee (f := 77) rfl ?_); refine goesL_ (some 17) rfl rfl Try.func77 (by kernel_rfl) rfl #[.string a1] rfl (pY36) ?_; (refine (impl_name.calls k a1 true _ D3.1).mono ?_); rintro e_ W6 ⟨rfl, hb⟩; refine ⟨_, rfl, ?_⟩; obtain ⟨nd_, hd_⟩ := hb; have hb : Below ((W5.setCell ⟨gb8, 0, none⟩ (.slice Ac0 c1a.length cc0)).setCell ⟨gb8, 1, none⟩ (.slice Ac1 c1b.length cc1)).heap.size ((W5.setCell ⟨gb8, 0, none⟩ (.slice Ac0 c1a.length cc0)).setCell ⟨gb8, 1, none⟩ (.slice Ac1 c1b.length cc1)) W6 := hd_ ▸ pw_below_drewN (Below.refl _ _) nd_; clear hd_ nd_; have HB0 := Aside0.mk (show w.heap.size ≤ W5.heap.size from HB.1.size); have hk_ : Kept W5 W6 (fun k => k = gb8) := (Kept.two (w := W5) (g := gb8) 0 1 (.slice Ac0 c1a.length cc0) (.slice Ac1 c1b.length cc1)).below hb; have LEW6 := Aside0.mk (show W5.heap.size ≤ W6.heap.size from hk_.1); have n0_ := Aside0.mk (BkS.kept KC.out hk_ (fun k_ h1_ h2_ e_ => by have := LEW1.1; have := GL3.1; have := GH3.1; have := LEW2.1; have := GL6.1; have := GH6.1; have := LEW3.1; have := LEW4.1; have := LEW5.1; have := GL8.1; have := GH8.1;  omega)); have nb3_ := Aside0.mk (blk_kept BK3.1 hk_ (fun e_ => by have := LEW1.1; have := GL3.1; have := GH3.1; have := LEW2.1; have := GL6.1; have := GH6.1; have := LEW3.1; have := LEW4.1; have := LEW5.1; have := GL8.1; have := GH8.1;  omega)); have nb6_ := Aside0.mk (blk_kept BK6.1 hk_ (fun e_ => by have := LEW1.1; have := GL3.1; have := GH3.1; have := LEW2.1; have := GL6.1; have := GH6.1; have := LEW3.1; have := LEW4.1; have := LEW5.1; have := GL8.1; have := GH8.1;  omega)); clear KC BK3 BK6; have KC := n0_; have BK3 := nb3_; have BK6 := nb6_; clear n0_ nb3_ nb6_; have nb_ := Aside0.mk (blk_below (g := gb8) (o := .cells #[.slice Ac0 c1a.length cc0, .slice Ac1 c1b.length cc1] 31 (0, 0)) (blk_put (cs := #[.slice Ac0 c1a.length cc0, .slice none 0 0]) (blk_put (cs := #[.slice none 0 0, .slice none 0 0]) BK8.1 0 _ rfl) 1 _ rfl) hb); clear BK8; have BK8 := nb_; clear nb_; have n_ := Aside0.mk (below_step (below_set (below_set HB.1 GE8.1) GE8.1) hb); clear HB; have HB := n_; clear n_; (try clear hb); (try clear hk_); (try clear hkk); (try clear hbb); (try clear hcz3_0 hcz3_1 hfz3_0 hfz3_1); have hcz3_0 : W6.cell? ⟨gb3, 0, none⟩ = some (.slice A0_0 l0.length c0_0) := (blk_cell BK3.1 0).trans rfl; have hcz3_1 : W6.cell? ⟨gb3, 1, none⟩ = some (.slice A0_1 l1.length c0_1) := (blk_cell BK3.1 1).trans rfl; have hfz3_0 := blk_frozen BK3.1 0; have hfz3_1 := blk_frozen BK3.1 1; (try clear hcz8_0 hcz8_1 hfz8_0 hfz8_1); have hcz8_0 : W6.cell? ⟨gb8, 0, none⟩ = some (.slice Ac0 c1a.length cc0) := (blk_cell BK8.1 0).trans rfl; have hcz8_1 : W6.cell? ⟨gb8, 1, none⟩ = some (.slice Ac1 c1b.length cc1) := (blk_cell BK8.1 1).trans rfl; have hfz8_0 := blk_frozen BK8.1 0; have hfz8_1 := blk_frozen BK8.1 1; (try clear hcz6_0 hcz6_1 hfz6_0 hfz6_1); have hcz6_0 : W6.cell? ⟨gb6, 0, none⟩ = some (.slice none 0 0) := (blk_cell BK6.1 0).trans rfl; have hcz6_1 : W6.cell? ⟨gb6, 1, none⟩ = some (.slice none 0 0) := (blk_cell BK6.1 1).trans rfl; have hfz6_0 := blk_frozen BK6.1 0; have hfz6_1 := blk_frozen BK6.1 1; (try clear HB0)) | (go_at_call 74; (refine (impl_of.calls k _ _ l2 _ _ l0 true _ (Kd.C_below HR2.1 HB.1) HC2.1 (Kd.C_below HR0_0.1 HB.1) HC0_0.1 D4.1).mono ?_); rintro e_ W7 ⟨rfl, hb⟩; obtain ⟨nd_, hd_⟩ := hb; have hb : Below W6.heap.size W6 W7 := hd_ ▸ pw_below_drewN (Below.refl _ _) nd_; clear hd_ nd_; have HB0 := Aside0.mk (show w.heap.size ≤ W6.heap.size from HB.1.size); have hk_ : Kept W6 W7 (fun _ => False) := Kept.noth hb; have LEW7 := Aside0.mk (show W6.heap.size ≤ W7.heap.size from hk_.1); have n0_ := Aside0.mk (BkS.kept KC.out hk_ (fun _ _ _ h => h)); have nb3_ := Aside0.mk (blk_kept BK3.1 hk_ (fun h => h)); have nb6_ := Aside0.mk (blk_kept BK6.1 hk_ (fun h => h)); have nb8_ := Aside0.mk (blk_kept BK8.1 hk_ (fun h => h)); clear KC BK3 BK6 BK8; have KC := n0_; have BK3 := nb3_; have BK6 := nb6_; have BK8 := nb8_; clear n0_ nb3_ nb6_ nb8_; have n_ := Aside0.mk (below_step (HB.1) hb); clear HB; have HB := n_; clear n_; (try clear hb); (try clear hk_); (try clear hkk); (try clear hbb); (try clear hcz3_0 hcz3_1 hfz3_0 hfz3_1); have hcz3_0 : W7.cell? ⟨gb3, 0, none⟩ = some (.slice A0_0 l0.length c0_0) := (blk_cell BK3.1 0).trans rfl; have hcz3_1 : W7.cell? ⟨gb3, 1, none⟩ = some (.slice A0_1 l1.length c0_1) := (blk_cell BK3.1 1).trans rfl; have hfz3_0 := blk_frozen BK3.1 0; have hfz3_1 := blk_frozen BK3.1 1; (try clear hcz8_0 hcz8_1 hfz8_0 hfz8_1); have hcz8_0 : W7.cell? ⟨gb8, 0, none⟩ = some (.slice Ac0 c1a.length cc0) := (blk_cell BK8.1 0).trans rfl; have hcz8_1 : W7.cell? ⟨gb8, 1, none⟩ = some (.slice Ac1 c1b.length cc1) := (blk_cell BK8.1 1).trans rfl; have hfz8_0 := blk_frozen BK8.1 0; have hfz8_1 := blk_frozen BK8.1 1; (try clear hcz6_0 hcz6_1 hfz6_0 hfz6_1); have hcz6_0 : W7.cell? ⟨gb6, 0, none⟩ = some (.slice none 0 0) := (blk_cell BK6.1 0).trans rfl; have hcz6_1 : W7.cell? ⟨gb6, 1, none⟩ = some (.slice none 0 0) := (blk_cell BK6.1 1).trans rfl; have hfz6_0 := blk_frozen BK6.1 0; have hfz6_1 := blk_frozen BK6.1 1; (try clear HB0)) | ((with_reducible refine gate_callee (f := 84) rfl ?_); refine goesL_ (some 30) rfl rfl Try.func84 (by kernel_rfl) rfl #[.agg #[.slice A0_0 l0.length c0_0, .slice A0_1 l1.length c0_1], .string a1] rfl (pY36) ?_; (refine (impl_ShareBook_at.calls _ _ l0 _ _ l1 a1 i _ (Kd.C_below HR0_0.1 HB.1) HC0_0.1 (Kd.C_below HR0_1.1 HB.1) HC0_1.1 D5.1).mono ?_); rintro e_ W8 ⟨rfl, hb⟩; refine ⟨_, rfl, ?_⟩; have HB0 := Aside0.mk (show w.heap.size ≤ W7.heap.size from HB.1.size); have hk_ : Kept W7 W8 (fun _ => False) := Kept.noth hb; have LEW8 := Aside0.mk (show W7.heap.size ≤ W8.heap.size from hk_.1); have n0_ := Aside0.mk (BkS.kept KC.out hk_ (fun _ _ _ h => h)); have nb3_ := Aside0.mk (blk_kept BK3.1 hk_ (fun h => h)); have nb6_ := Aside0.mk (blk_kept BK6.1 hk_ (fun h => h)); have nb8_ := Aside0.mk (blk_kept BK8.1 hk_ (fun h => h)); clear KC BK3 BK6 BK8; have KC := n0_; have BK3 := nb3_; have BK6 := nb6_; have BK8 := nb8_; clear n0_ nb3_ nb6_ nb8_; have n_ := Aside0.mk (below_step (HB.1) hb); clear HB; have HB := n_; clear n_; (try clear hb); (try clear hk_); (try clear hkk); (try clear hbb); (try clear hcz8_0 hcz8_1 hfz8_0 hfz8_1); have hcz8_0 : W8.cell? ⟨gb8, 0, none⟩ = some (.slice Ac0 c1a.length cc0) := (blk_cell BK8.1 0).trans rfl; have hcz8_1 : W8.cell? ⟨gb8, 1, none⟩ = some (.slice Ac1 c1b.length cc1) := (blk_cell BK8.1 1).trans rfl; have hfz8_0 := blk_frozen BK8.1 0; have hfz8_1 := blk_frozen BK8.1 1; (try clear hcz6_0 hcz6_1 hfz6_0 hfz6_1); have hcz6_0 : W8.cell? ⟨gb6, 0, none⟩ = some (.slice none 0 0) := (blk_cell BK6.1 0).trans rfl; have hcz6_1 : W8.cell? ⟨gb6, 1, none⟩ = some (.slice none 0 0) := (blk_cell BK6.1 1).trans rfl; have hfz6_0 := blk_frozen BK6.1 0; have hfz6_1 := blk_frozen BK6.1 1; (try clear HB0)))
  (try simp only [Exit.inBlock, Exit.then]); refine bodyPost_ret (results_ct rfl _ _ gb6 31 #[.slice Ac0 c1a.length cc0, .slice Ac1 c1b.length cc1] (0, 0) _ rfl (blk_put (cs := #[.slice Ac0 c1a.length cc0, .slice none 0 0]) (blk_put (cs := #[.slice none 0 0, .slice none 0 0]) (BK6.1) 0 _ rfl) 1 _ rfl) Try.underlying31 rfl (by kernel_rfl)) rfl ?_
  have hK_ := BkS.kept KC.out (Kept.two (w := W8) (g := gb6) 0 1 (.slice Ac0 c1a.length cc0) (.slice Ac1 c1b.length cc1)) (fun k_ h1_ h2_ e_ => by have := LEW1.1; have := GL3.1; have := GH3.1; have := LEW2.1; have := GL6.1; have := GH6.1; have := LEW3.1; have := LEW4.1; have := LEW5.1; have := GL8.1; have := GH8.1; have := LEW6.1; have := LEW7.1; have := LEW8.1;  omega)
  exact ⟨_, _, rfl, Kd.R_mono hK_.1 (fun _ _ => trivial), Kd.S_mono hK_.2 (fun _ h_ => h_.2), below_set (below_set HB.1 GE6.1) GE6.1⟩
 rw [if_neg ci] at H
 have ci0 : decide (0 ≤ i) = false := decide_eq_false ci
 have ci1 : decide (i < 0) = true := decide_eq_true (by omega)
 by_cases cl : l1.length = 5
 ·rw [if_pos cl] at H
  have cl0 : ((l1.length : Int) == 5) = true := beq_iff_eq.mpr (by omega)
  clear cl
  simp only [Option.some.injEq, Prod.mk.injEq] at H
  obtain ⟨rfl, rfl, rfl⟩ := H
  go_enter Try.func60, Try.ntmps60
  go_wp2_with (first | ((with_reducible refine gate_dst (N := 3) rfl ?_); refine box_event ?hg (N := 3) ?hd (cs := #[.slice A0_0 l0.length c0_0, .slice A0_1 l1.length c0_1]) (t := 31) ?hr ?_; (case hd => rfl); (case hg => rfl); (case hr => first | (go_simp; done) | (go_simp; rfl)); intro gb3 hg_ W1 hbox hb; have hk_ : Kept w W1 (fun _ => False) := Kept.noth hb; have LEW1 := Aside0.mk (show w.heap.size ≤ W1.heap.size from hk_.1); have GE3 := Aside0.mk (show w.heap.size ≤ gb3 from Nat.le_trans HB.1.size (Nat.le_of_eq hg_.symm)); have GL3 := Aside0.mk (show w.heap.size ≤ gb3 from Nat.le_of_eq hg_.symm); have GH3 := Aside0.mk (show gb3 < W1.heap.size from blk_lt hbox); have n_ := Aside0.mk (below_step HB.1 hb); clear HB; have HB := n_; clear n_; have BK3 := Aside0.mk hbox; clear hb hbox hg_ hk_; (try clear hcz3_0 hcz3_1 hfz3_0 hfz3_1); have hcz3_0 : W1.cell? ⟨gb3, 0, none⟩ = some (.slice A0_0 l0.length c0_0) := (blk_cell BK3.1 0).trans rfl; have hcz3_1 : W1.cell? ⟨gb3, 1, none⟩ = some (.slice A0_1 l1.length c0_1) := (blk_cell BK3.1 1).trans rfl; have hfz3_0 := blk_frozen BK3.1 0; have hfz3_1 := blk_frozen BK3.1 1) | ((with_reducible refine gate_dst (N := 6) rfl ?_); refine box_event ?hg (N := 6) ?hd (cs := #[.slice none 0 0, .slice none 0 0]) (t := 31) ?hr ?_; (case hd => rfl); (case hg => rfl); (case hr => first | (go_simp; done) | (go_simp; rfl)); intro gb6 hg_ W2 hbox hb; have hk_ : Kept W1 W2 (fun _ => False) := Kept.noth hb; have LEW2 := Aside0.mk (show W1.heap.size ≤ W2.heap.size from hk_.1); have GE6 := Aside0.mk (show w.heap.size ≤ gb6 from Nat.le_trans HB.1.size (Nat.le_of_eq hg_.symm)); have GL6 := Aside0.mk (show W1.heap.size ≤ gb6 from Nat.le_of_eq hg_.symm); have GH6 := Aside0.mk (show gb6 < W2.heap.size from blk_lt hbox); have nb3_ := Aside0.mk (blk_kept BK3.1 hk_ (fun h => h)); clear BK3; have BK3 := nb3_; clear nb3_; have n_ := Aside0.mk (below_step HB.1 hb); clear HB; have HB := n_; clear n_; have BK6 := Aside0.mk hbox; clear hb hbox hg_ hk_; have nb6_3 : gb6 ≠ gb3 := (by have := LEW1.1; have := GL3.1; have := GH3.1; have := LEW2.1; have := GL6.1; have := GH6.1;  omega); have nb3_6 : gb3 ≠ gb6 := (by have := LEW1.1; have := GL3.1; have := GH3.1; have := LEW2.1; have := GL6.1; have := GH6.1;  omega); (try clear hcz6_0 hcz6_1 hfz6_0 hfz6_1); have hcz6_0 : W2.cell? ⟨gb6, 0, none⟩ = some (.slice none 0 0) := (blk_cell BK6.1 0).trans rfl; have hcz6_1 : W2.cell? ⟨gb6, 1, none⟩ = some (.slice none 0 0) := (blk_cell BK6.1 1).trans rfl; have hfz6_0 := blk_frozen BK6.1 0; have hfz6_1 := blk_frozen BK6.1 1; (try clear hcz3_0 hcz3_1 hfz3_0 hfz3_1); have hcz3_0 : W2.cell? ⟨gb3, 0, none⟩ = some (.slice A0_0 l0.length c0_0) := (blk_cell BK3.1 0).trans rfl; have hcz3_1 : W2.cell? ⟨gb3, 1, none⟩ = some (.slice A0_1 l1.length c0_1) := (blk_cell BK3.1 1).trans rfl; have hfz3_0 := blk_frozen BK3.1 0; have hfz3_1 := blk_frozen BK3.1 1) | ((with_reducible refine gate_callee (f := 24) rfl ?_); refine goesL_ (some 10) rfl rfl Try.func24 (by kernel_rfl) rfl #[.agg #[.slice A0_0 l0.length c0_0, .slice A0_1 l1.length c0_1]] rfl (pY36) ?_; (refine (impl_ShareBookOk.calls k _ _ l0 _ _ l1 true _ (Kd.C_below HR0_0.1 HB.1) HC0_0.1 (Kd.C_below HR0_1.1 HB.1) HC0_1.1 D1.1).mono ?_); rintro e_ W3 ⟨rfl, hb⟩; refine ⟨_, rfl, ?_⟩; have HB0 := Aside0.mk (show w.heap.size ≤ W2.heap.size from HB.1.size); have hk_ : Kept W2 W3 (fun _ => False) := Kept.noth hb; have LEW3 := Aside0.mk (show W2.heap.size ≤ W3.heap.size from hk_.1); have nb3_ := Aside0.mk (blk_kept BK3.1 hk_ (fun h => h)); have nb6_ := Aside0.mk (blk_kept BK6.1 hk_ (fun h => h)); clear BK3 BK6; have BK3 := nb3_; have BK6 := nb6_; clear nb3_ nb6_; have n_ := Aside0.mk (below_step (HB.1) hb); clear HB; have HB := n_; clear n_; (try clear hb); (try clear hk_); (try clear hkk); (try clear hbb); (try clear hcz3_0 hcz3_1 hfz3_0 hfz3_1); have hcz3_0 : W3.cell? ⟨gb3, 0, none⟩ = some (.slice A0_0 l0.length c0_0) := (blk_cell BK3.1 0).trans rfl; have hcz3_1 : W3.cell? ⟨gb3, 1, none⟩ = some (.slice A0_1 l1.length c0_1) := (blk_cell BK3.1 1).trans rfl; have hfz3_0 := blk_frozen BK3.1 0; have hfz3_1 := blk_frozen BK3.1 1; (try clear hcz6_0 hcz6_1 hfz6_0 hfz6_1); have hcz6_0 : W3.cell? ⟨gb6, 0, none⟩ = some (.slice none 0 0) := (blk_cell BK6.1 0).trans rfl; have hcz6_1 : W3.cell? ⟨gb6, 1, none⟩ = some (.slice none 0 0) := (blk_cell BK6.1 1).trans rfl; have hfz6_0 := blk_frozen BK6.1 0; have hfz6_1 := blk_frozen BK6.1 1; (try clear HB0)) | ((with_reducible refine gate_callee (f := 90) rfl ?_); refine goesL_ (some 14) rfl rfl Try.func90 (by kernel_rfl) rfl #[.agg #[.slice A0_0 l0.length c0_0, .slice A0_1 l1.length c0_1]] rfl (pY36) ?_; (refine (impl_copyBook.calls k _ _ l0 _ _ l1 c1a c1b _ (Kd.C_below HR0_0.1 HB.1) HC0_0.1 (Kd.C_below HR0_1.1 HB.1) HC0_1.1 D2.1).mono ?_); rintro e_ W4 ⟨_, _, rfl, ho0, ho1, hb⟩; refine ⟨_, rfl, ?_⟩; have HB0 := Aside0.mk (show w.heap.size ≤ W3.heap.size from HB.1.size); have hk_ : Kept W3 W4 (fun _ => False) := Kept.noth hb; have LEW4 := Aside0.mk (show W3.heap.size ≤ W4.heap.size from hk_.1); have nb3_ := Aside0.mk (blk_kept BK3.1 hk_ (fun h => h)); have nb6_ := Aside0.mk (blk_kept BK6.1 hk_ (fun h => h)); clear BK3 BK6; have BK3 := nb3_; have BK6 := nb6_; clear nb3_ nb6_; have n_ := Aside0.mk (below_step (HB.1) hb); clear HB; have HB := n_; clear n_; have n_ := Aside0.mk (BkS.made (n := W3.heap.size) ho0 ho1 (HB0.out) (Nat.le_refl _)); have KC := n_; clear n_ ho0 ho1; obtain ⟨Ac0, cc0, Ac1, cc1, e0_, e1_⟩ := KC.out.slices; subst e0_; subst e1_; (try clear hb); (try clear hk_); (try clear hkk); (try clear hbb); (try clear hcz3_0 hcz3_1 hfz3_0 hfz3_1); have hcz3_0 : W4.cell? ⟨gb3, 0, none⟩ = some (.slice A0_0 l0.length c0_0) := (blk_cell BK3.1 0).trans rfl; have hcz3_1 : W4.cell? ⟨gb3, 1, none⟩ = some (.slice A0_1 l1.length c0_1) := (blk_cell BK3.1 1).trans rfl; have hfz3_0 := blk_frozen BK3.1 0; have hfz3_1 := blk_frozen BK3.1 1; (try clear hcz6_0 hcz6_1 hfz6_0 hfz6_1); have hcz6_0 : W4.cell? ⟨gb6, 0, none⟩ = some (.slice none 0 0) := (blk_cell BK6.1 0).trans rfl; have hcz6_1 : W4.cell? ⟨gb6, 1, none⟩ = some (.slice none 0 0) := (blk_cell BK6.1 1).trans rfl; have hfz6_0 := blk_frozen BK6.1 0; have hfz6_1 := blk_frozen BK6.1 1; (try clear HB0)) | ((with_reducible refine gate_dst (N := 8) rfl ?_); refine box_event ?hg (N := 8) ?hd (cs := #[.slice none 0 0, .slice none 0 0]) (t := 31) ?hr ?_; (case hd => rfl); (case hg => rfl); (case hr => first | (go_simp; done) | (go_simp; rfl)); intro gb8 hg_ W5 hbox hb; have hk_ : Kept W4 W5 (fun _ => False) := Kept.noth hb; have LEW5 := Aside0.mk (show W4.heap.size ≤ W5.heap.size from hk_.1); have GE8 := Aside0.mk (show w.heap.size ≤ gb8 from Nat.le_trans HB.1.size (Nat.le_of_eq hg_.symm)); have GL8 := Aside0.mk (show W4.heap.size ≤ gb8 from Nat.le_of_eq hg_.symm); have GH8 := Aside0.mk (show gb8 < W5.heap.size from blk_lt hbox); have n0_ := Aside0.mk (BkS.kept KC.out hk_ (fun _ _ _ h => h)); have nb3_ := Aside0.mk (blk_kept BK3.1 hk_ (fun h => h)); have nb6_ := Aside0.mk (blk_kept BK6.1 hk_ (fun h => h)); clear KC BK3 BK6; have KC := n0_; have BK3 := nb3_; have BK6 := nb6_; clear n0_ nb3_ nb6_; have n_ := Aside0.mk (below_step HB.1 hb); clear HB; have HB := n_; clear n_; have BK8 := Aside0.mk hbox; clear hb hbox hg_ hk_; have nb8_3 : gb8 ≠ gb3 := (by have := LEW1.1; have := GL3.1; have := GH3.1; have := LEW2.1; have := GL6.1; have := GH6.1; have := LEW3.1; have := LEW4.1; have := LEW5.1; have := GL8.1; have := GH8.1;  omega); have nb3_8 : gb3 ≠ gb8 := (by have := LEW1.1; have := GL3.1; have := GH3.1; have := LEW2.1; have := GL6.1; have := GH6.1; have := LEW3.1; have := LEW4.1; have := LEW5.1; have := GL8.1; have := GH8.1;  omega); have nb8_6 : gb8 ≠ gb6 := (by have := LEW1.1; have := GL3.1; have := GH3.1; have := LEW2.1; have := GL6.1; have := GH6.1; have := LEW3.1; have := LEW4.1; have := LEW5.1; have := GL8.1; have := GH8.1;  omega); have nb6_8 : gb6 ≠ gb8 := (by have := LEW1.1; have := GL3.1; have := GH3.1; have := LEW2.1; have := GL6.1; have := GH6.1; have := LEW3.1; have := LEW4.1; have := LEW5.1; have := GL8.1; have := GH8.1;  omega); (try clear hcz8_0 hcz8_1 hfz8_0 hfz8_1); have hcz8_0 : W5.cell? ⟨gb8, 0, none⟩ = some (.slice none 0 0) := (blk_cell BK8.1 0).trans rfl; have hcz8_1 : W5.cell? ⟨gb8, 1, none⟩ = some (.slice none 0 0) := (blk_cell BK8.1 1).trans rfl; have hfz8_0 := blk_frozen BK8.1 0; have hfz8_1 := blk_frozen BK8.1 1; (try clear hcz3_0 hcz3_1 hfz3_0 hfz3_1); have hcz3_0 : W5.cell? ⟨gb3, 0, none⟩ = some (.slice A0_0 l0.length c0_0) := (blk_cell BK3.1 0).trans rfl; have hcz3_1 : W5.cell? ⟨gb3, 1, none⟩ = some (.slice A0_1 l1.length c0_1) := (blk_cell BK3.1 1).trans rfl; have hfz3_0 := blk_frozen BK3.1 0; have hfz3_1 := blk_frozen BK3.1 1; (try clear hcz6_0 hcz6_1 hfz6_0 hfz6_1); have hcz6_0 : W5.cell? ⟨gb6, 0, none⟩ = some (.slice none 0 0) := (blk_cell BK6.1 0).trans rfl; have hcz6_1 : W5.cell? ⟨gb6, 1, none⟩ = some (.slice none 0 0) := (blk_cell BK6.1 1).trans rfl; have hfz6_0 := blk_frozen BK6.1 0; have hfz6_1 := blk_frozen BK6.1 1) | ((with_reducible refine gate_callee (f := 77) rfl ?_); refine goesL_ (some 17) rfl rfl Try.func77 (by kernel_rfl) rfl #[.string a1] rfl (pY36) ?_; (refine (impl_name.calls k a1 true _ D3.1).mono ?_); rintro e_ W6 ⟨rfl, hb⟩; refine ⟨_, rfl, ?_⟩; obtain ⟨nd_, hd_⟩ := hb; have hb : Below ((W5.setCell ⟨gb8, 0, none⟩ (.slice Ac0 c1a.length cc0)).setCell ⟨gb8, 1, none⟩ (.slice Ac1 c1b.length cc1)).heap.size ((W5.setCell ⟨gb8, 0, none⟩ (.slice Ac0 c1a.length cc0)).setCell ⟨gb8, 1, none⟩ (.slice Ac1 c1b.length cc1)) W6 := hd_ ▸ pw_below_drewN (Below.refl _ _) nd_; clear hd_ nd_; have HB0 := Aside0.mk (show w.heap.size ≤ W5.heap.size from HB.1.size); have hk_ : Kept W5 W6 (fun k => k = gb8) := (Kept.two (w := W5) (g := gb8) 0 1 (.slice Ac0 c1a.length cc0) (.slice Ac1 c1b.length cc1)).below hb; have LEW6 := Aside0.mk (show W5.heap.size ≤ W6.heap.size from hk_.1); have n0_ := Aside0.mk (BkS.kept KC.out hk_ (fun k_ h1_ h2_ e_ => by have := LEW1.1; have := GL3.1; have := GH3.1; have := LEW2.1; have := GL6.1; have := GH6.1; have := LEW3.1; have := LEW4.1; have := LEW5.1; have := GL8.1; have := GH8.1;  omega)); have nb3_ := Aside0.mk (blk_kept BK3.1 hk_ (fun e_ => by have := LEW1.1; have := GL3.1; have := GH3.1; have := LEW2.1; have := GL6.1; have := GH6.1; have := LEW3.1; have := LEW4.1; have := LEW5.1; have := GL8.1; have := GH8.1;  omega)); have nb6_ := Aside0.mk (blk_kept BK6.1 hk_ (fun e_ => by have := LEW1.1; have := GL3.1; have := GH3.1; have := LEW2.1; have := GL6.1; have := GH6.1; have := LEW3.1; have := LEW4.1; have := LEW5.1; have := GL8.1; have := GH8.1;  omega)); clear KC BK3 BK6; have KC := n0_; have BK3 := nb3_; have BK6 := nb6_; clear n0_ nb3_ nb6_; have nb_ := Aside0.mk (blk_below (g := gb8) (o := .cells #[.slice Ac0 c1a.length cc0, .slice Ac1 c1b.length cc1] 31 (0, 0)) (blk_put (cs := #[.slice Ac0 c1a.length cc0, .slice none 0 0]) (blk_put (cs := #[.slice none 0 0, .slice none 0 0]) BK8.1 0 _ rfl) 1 _ rfl) hb); clear BK8; have BK8 := nb_; clear nb_; have n_ := Aside0.mk (below_step (below_set (below_set HB.1 GE8.1) GE8.1) hb); clear HB; have HB := n_; clear n_; (try clear hb); (try clear hk_); (try clear hkk); (try clear hbb); (try clear hcz3_0 hcz3_1 hfz3_0 hfz3_1); have hcz3_0 : W6.cell? ⟨gb3, 0, none⟩ = some (.slice A0_0 l0.length c0_0) := (blk_cell BK3.1 0).trans rfl; have hcz3_1 : W6.cell? ⟨gb3, 1, none⟩ = some (.slice A0_1 l1.length c0_1) := (blk_cell BK3.1 1).trans rfl; have hfz3_0 := blk_frozen BK3.1 0; have hfz3_1 := blk_frozen BK3.1 1; (try clear hcz8_0 hcz8_1 hfz8_0 hfz8_1); have hcz8_0 : W6.cell? ⟨gb8, 0, none⟩ = some (.slice Ac0 c1a.length cc0) := (blk_cell BK8.1 0).trans rfl; have hcz8_1 : W6.cell? ⟨gb8, 1, none⟩ = some (.slice Ac1 c1b.length cc1) := (blk_cell BK8.1 1).trans rfl; have hfz8_0 := blk_frozen BK8.1 0; have hfz8_1 := blk_frozen BK8.1 1; (try clear hcz6_0 hcz6_1 hfz6_0 hfz6_1); have hcz6_0 : W6.cell? ⟨gb6, 0, none⟩ = some (.slice none 0 0) := (blk_cell BK6.1 0).trans rfl; have hcz6_1 : W6.cell? ⟨gb6, 1, none⟩ = some (.slice none 0 0) := (blk_cell BK6.1 1).trans rfl; have hfz6_0 := blk_frozen BK6.1 0; have hfz6_1 := blk_frozen BK6.1 1; (try clear HB0)) | (go_at_call 74; (refine (impl_of.calls k _ _ l2 _ _ l0 true _ (Kd.C_below HR2.1 HB.1) HC2.1 (Kd.C_below HR0_0.1 HB.1) HC0_0.1 D4.1).mono ?_); rintro e_ W7 ⟨rfl, hb⟩; obtain ⟨nd_, hd_⟩ := hb; have hb : Below W6.heap.size W6 W7 := hd_ ▸ pw_below_drewN (Below.refl _ _) nd_; clear hd_ nd_; have HB0 := Aside0.mk (show w.heap.size ≤ W6.heap.size from HB.1.size); have hk_ : Kept W6 W7 (fun _ => False) := Kept.noth hb; have LEW7 := Aside0.mk (show W6.heap.size ≤ W7.heap.size from hk_.1); have n0_ := Aside0.mk (BkS.kept KC.out hk_ (fun _ _ _ h => h)); have nb3_ := Aside0.mk (blk_kept BK3.1 hk_ (fun h => h)); have nb6_ := Aside0.mk (blk_kept BK6.1 hk_ (fun h => h)); have nb8_ := Aside0.mk (blk_kept BK8.1 hk_ (fun h => h)); clear KC BK3 BK6 BK8; have KC := n0_; have BK3 := nb3_; have BK6 := nb6_; have BK8 := nb8_; clear n0_ nb3_ nb6_ nb8_; have n_ := Aside0.mk (below_step (HB.1) hb); clear HB; have HB := n_; clear n_; (try clear hb); (try clear hk_); (try clear hkk); (try clear hbb); (try clear hcz3_0 hcz3_1 hfz3_0 hfz3_1); have hcz3_0 : W7.cell? ⟨gb3, 0, none⟩ = some (.slice A0_0 l0.length c0_0) := (blk_cell BK3.1 0).trans rfl; have hcz3_1 : W7.cell? ⟨gb3, 1, none⟩ = some (.slice A0_1 l1.length c0_1) := (blk_cell BK3.1 1).trans rfl; have hfz3_0 := blk_frozen BK3.1 0; have hfz3_1 := blk_frozen BK3.1 1; (try clear hcz8_0 hcz8_1 hfz8_0 hfz8_1); have hcz8_0 : W7.cell? ⟨gb8, 0, none⟩ = some (.slice Ac0 c1a.length cc0) := (blk_cell BK8.1 0).trans rfl; have hcz8_1 : W7.cell? ⟨gb8, 1, none⟩ = some (.slice Ac1 c1b.length cc1) := (blk_cell BK8.1 1).trans rfl; have hfz8_0 := blk_frozen BK8.1 0; have hfz8_1 := blk_frozen BK8.1 1; (try clear hcz6_0 hcz6_1 hfz6_0 hfz6_1); have hcz6_0 : W7.cell? ⟨gb6, 0, none⟩ = some (.slice none 0 0) := (blk_cell BK6.1 0).trans rfl; have hcz6_1 : W7.cell? ⟨gb6, 1, none⟩ = some (.slice none 0 0) := (blk_cell BK6.1 1).trans rfl; have hfz6_0 := blk_frozen BK6.1 0; have hfz6_1 := blk_frozen BK6.1 1; (try clear HB0)) | ((with_reducible refine gate_callee (f := 84) rfl ?_); refine goesL_ (some 30) rfl rfl Try.func84 (by kernel_rfl) rfl #[.agg #[.slice A0_0 l0.length c0_0, .slice A0_1 l1.length c0_1], .string a1] rfl (pY36) ?_; (refine (impl_ShareBook_at.calls _ _ l0 _ _ l1 a1 i _ (Kd.C_below HR0_0.1 HB.1) HC0_0.1 (Kd.C_below HR0_1.1 HB.1) HC0_1.1 D5.1).mono ?_); rintro e_ W8 ⟨rfl, hb⟩; refine ⟨_, rfl, ?_⟩; have HB0 := Aside0.mk (show w.heap.size ≤ W7.heap.size from HB.1.size); have hk_ : Kept W7 W8 (fun _ => False) := Kept.noth hb; have LEW8 := Aside0.mk (show W7.heap.size ≤ W8.heap.size from hk_.1); have n0_ := Aside0.mk (BkS.kept KC.out hk_ (fun _ _ _ h => h)); have nb3_ := Aside0.mk (blk_kept BK3.1 hk_ (fun h => h)); have nb6_ := Aside0.mk (blk_kept BK6.1 hk_ (fun h => h)); have nb8_ := Aside0.mk (blk_kept BK8.1 hk_ (fun h => h)); clear KC BK3 BK6 BK8; have KC := n0_; have BK3 := nb3_; have BK6 := nb6_; have BK8 := nb8_; clear n0_ nb3_ nb6_ nb8_; have n_ := Aside0.mk (below_step (HB.1) hb); clear HB; have HB := n_; clear n_; (try clear hb); (try clear hk_); (try clear hkk); (try clear hbb); (try clear hcz3_0 hcz3_1 hfz3_0 hfz3_1); have hcz3_0 : W8.cell? ⟨gb3, 0, none⟩ = some (.slice A0_0 l0.length c0_0) := (blk_cell BK3.1 0).trans rfl; have hcz3_1 : W8.cell? ⟨gb3, 1, none⟩ = some (.slice A0_1 l1.length c0_1) := (blk_cell BK3.1 1).trans rfl; have hfz3_0 := blk_frozen BK3.1 0; have hfz3_1 := blk_frozen BK3.1 1; (try clear hcz8_0 hcz8_1 hfz8_0 hfz8_1); have hcz8_0 : W8.cell? ⟨gb8, 0, none⟩ = some (.slice Ac0 c1a.length cc0) := (blk_cell BK8.1 0).trans rfl; have hcz8_1 : W8.cell? ⟨gb8, 1, none⟩ = some (.slice Ac1 c1b.length cc1) := (blk_cell BK8.1 1).trans rfl; have hfz8_0 := blk_frozen BK8.1 0; have hfz8_1 := blk_frozen BK8.1 1; (try clear hcz6_0 hcz6_1 hfz6_0 hfz6_1); have hcz6_0 : W8.cell? ⟨gb6, 0, none⟩ = some (.slice none 0 0) := (blk_cell BK6.1 0).trans rfl; have hcz6_1 : W8.cell? ⟨gb6, 1, none⟩ = some (.slice none 0 0) := (blk_cell BK6.1 1).trans rfl; have hfz6_0 := blk_frozen BK6.1 0; have hfz6_1 := blk_frozen BK6.1 1; (try clear HB0)))
  (try simp only [Exit.inBlock, Exit.then]); refine bodyPost_ret (results_ct rfl _ _ gb6 31 #[.slice Ac0 c1a.length cc0, .slice Ac1 c1b.length cc1] (0, 0) _ rfl (blk_put (cs := #[.slice Ac0 c1a.length cc0, .slice none 0 0]) (blk_put (cs := #[.slice none 0 0, .slice none 0 0]) (BK6.1) 0 _ rfl) 1 _ rfl) Try.underlying31 rfl (by kernel_rfl)) rfl ?_
  have hK_ := BkS.kept KC.out (Kept.two (w := W8) (g := gb6) 0 1 (.slice Ac0 c1a.length cc0) (.slice Ac1 c1b.length cc1)) (fun k_ h1_ h2_ e_ => by have := LEW1.1; have := GL3.1; have := GH3.1; have := LEW2.1; have := GL6.1; have := GH6.1; have := LEW3.1; have := LEW4.1; have := LEW5.1; have := GL8.1; have := GH8.1; have := LEW6.1; have := LEW7.1; have := LEW8.1;  omega)
  exact ⟨_, _, rfl, Kd.R_mono hK_.1 (fun _ _ => trivial), Kd.S_mono hK_.2 (fun _ h_ => h_.2), below_set (below_set HB.1 GE6.1) GE6.1⟩
 rw [if_neg cl] at H
 have cl0 : ((l1.length : Int) == 5) = false := beq_eq_false_iff_ne.mpr (by omega)
 clear cl
 have H2 := Option.bind_eq_some_iff.mp H
 clear H
 obtain ⟨nd, D6_, H⟩ := H2
 have D6 := Aside0.mk D6_
 clear D6_
 by_cases hca : ¬ (c1b.length ≤ 11 ∧ Asc (insB c1b ⟨a1, [], nd⟩))
 ·rw [if_neg hca] at H
  cases H
 have hca := Classical.not_not.mp hca
 rw [if_pos hca] at H
 obtain ⟨cn11, cas⟩ := hca
 simp only [Option.some.injEq, Prod.mk.injEq] at H
 obtain ⟨rfl, rfl, rfl⟩ := H
 have CAS := Aside0.mk cas
 clear cas
 have LEN := Aside0.mk cn11
 clear cn11
 go_enter Try.func60, Try.ntmps60
 try go_wp2_with (first | ((with_reducible refine gate_dst (N := 3) rfl ?_); refine box_event ?hg (N := 3) ?hd (cs := #[.slice A0_0 l0.length c0_0, .slice A0_1 l1.length c0_1]) (t := 31) ?hr ?_; (case hd => rfl); (case hg => rfl); (case hr => first | (go_simp; done) | (go_simp; rfl)); intro gb3 hg_ W1 hbox hb; have hk_ : Kept w W1 (fun _ => False) := Kept.noth hb; have LEW1 := Aside0.mk (show w.heap.size ≤ W1.heap.size from hk_.1); have GE3 := Aside0.mk (show w.heap.size ≤ gb3 from Nat.le_trans HB.1.size (Nat.le_of_eq hg_.symm)); have GL3 := Aside0.mk (show w.heap.size ≤ gb3 from Nat.le_of_eq hg_.symm); have GH3 := Aside0.mk (show gb3 < W1.heap.size from blk_lt hbox); have n_ := Aside0.mk (below_step HB.1 hb); clear HB; have HB := n_; clear n_; have BK3 := Aside0.mk hbox; clear hb hbox hg_ hk_; (try clear hcz3_0 hcz3_1 hfz3_0 hfz3_1); have hcz3_0 : W1.cell? ⟨gb3, 0, none⟩ = some (.slice A0_0 l0.length c0_0) := (blk_cell BK3.1 0).trans rfl; have hcz3_1 : W1.cell? ⟨gb3, 1, none⟩ = some (.slice A0_1 l1.length c0_1) := (blk_cell BK3.1 1).trans rfl; have hfz3_0 := blk_frozen BK3.1 0; have hfz3_1 := blk_frozen BK3.1 1) | ((with_reducible refine gate_dst (N := 6) rfl ?_); refine box_event ?hg (N := 6) ?hd (cs := #[.slice none 0 0, .slice none 0 0]) (t := 31) ?hr ?_; (case hd => rfl); (case hg => rfl); (case hr => first | (go_simp; done) | (go_simp; rfl)); intro gb6 hg_ W2 hbox hb; have hk_ : Kept W1 W2 (fun _ => False) := Kept.noth hb; have LEW2 := Aside0.mk (show W1.heap.size ≤ W2.heap.size from hk_.1); have GE6 := Aside0.mk (show w.heap.size ≤ gb6 from Nat.le_trans HB.1.size (Nat.le_of_eq hg_.symm)); have GL6 := Aside0.mk (show W1.heap.size ≤ gb6 from Nat.le_of_eq hg_.symm); have GH6 := Aside0.mk (show gb6 < W2.heap.size from blk_lt hbox); have nb3_ := Aside0.mk (blk_kept BK3.1 hk_ (fun h => h)); clear BK3; have BK3 := nb3_; clear nb3_; have n_ := Aside0.mk (below_step HB.1 hb); clear HB; have HB := n_; clear n_; have BK6 := Aside0.mk hbox; clear hb hbox hg_ hk_; have nb6_3 : gb6 ≠ gb3 := (by have := LEW1.1; have := GL3.1; have := GH3.1; have := LEW2.1; have := GL6.1; have := GH6.1;  omega); have nb3_6 : gb3 ≠ gb6 := (by have := LEW1.1; have := GL3.1; have := GH3.1; have := LEW2.1; have := GL6.1; have := GH6.1;  omega); (try clear hcz6_0 hcz6_1 hfz6_0 hfz6_1); have hcz6_0 : W2.cell? ⟨gb6, 0, none⟩ = some (.slice none 0 0) := (blk_cell BK6.1 0).trans rfl; have hcz6_1 : W2.cell? ⟨gb6, 1, none⟩ = some (.slice none 0 0) := (blk_cell BK6.1 1).trans rfl; have hfz6_0 := blk_frozen BK6.1 0; have hfz6_1 := blk_frozen BK6.1 1; (try clear hcz3_0 hcz3_1 hfz3_0 hfz3_1); have hcz3_0 : W2.cell? ⟨gb3, 0, none⟩ = some (.slice A0_0 l0.length c0_0) := (blk_cell BK3.1 0).trans rfl; have hcz3_1 : W2.cell? ⟨gb3, 1, none⟩ = some (.slice A0_1 l1.length c0_1) := (blk_cell BK3.1 1).trans rfl; have hfz3_0 := blk_frozen BK3.1 0; have hfz3_1 := blk_frozen BK3.1 1) | ((with_reducible refine gate_callee (f := 24) rfl ?_); refine goesL_ (some 10) rfl rfl Try.func24 (by kernel_rfl) rfl #[.agg #[.slice A0_0 l0.length c0_0, .slice A0_1 l1.length c0_1]] rfl (pY36) ?_; (refine (impl_ShareBookOk.calls k _ _ l0 _ _ l1 true _ (Kd.C_below HR0_0.1 HB.1) HC0_0.1 (Kd.C_below HR0_1.1 HB.1) HC0_1.1 D1.1).mono ?_); rintro e_ W3 ⟨rfl, hb⟩; refine ⟨_, rfl, ?_⟩; have HB0 := Aside0.mk (show w.heap.size ≤ W2.heap.size from HB.1.size); have hk_ : Kept W2 W3 (fun _ => False) := Kept.noth hb; have LEW3 := Aside0.mk (show W2.heap.size ≤ W3.heap.size from hk_.1); have nb3_ := Aside0.mk (blk_kept BK3.1 hk_ (fun h => h)); have nb6_ := Aside0.mk (blk_kept BK6.1 hk_ (fun h => h)); clear BK3 BK6; have BK3 := nb3_; have BK6 := nb6_; clear nb3_ nb6_; have n_ := Aside0.mk (below_step (HB.1) hb); clear HB; have HB := n_; clear n_; (try clear hb); (try clear hk_); (try clear hkk); (try clear hbb); (try clear hcz3_0 hcz3_1 hfz3_0 hfz3_1); have hcz3_0 : W3.cell? ⟨gb3, 0, none⟩ = some (.slice A0_0 l0.length c0_0) := (blk_cell BK3.1 0).trans rfl; have hcz3_1 : W3.cell? ⟨gb3, 1, none⟩ = some (.slice A0_1 l1.length c0_1) := (blk_cell BK3.1 1).trans rfl; have hfz3_0 := blk_frozen BK3.1 0; have hfz3_1 := blk_frozen BK3.1 1; (try clear hcz6_0 hcz6_1 hfz6_0 hfz6_1); have hcz6_0 : W3.cell? ⟨gb6, 0, none⟩ = some (.slice none 0 0) := (blk_cell BK6.1 0).trans rfl; have hcz6_1 : W3.cell? ⟨gb6, 1, none⟩ = some (.slice none 0 0) := (blk_cell BK6.1 1).trans rfl; have hfz6_0 := blk_frozen BK6.1 0; have hfz6_1 := blk_frozen BK6.1 1; (try clear HB0)) | ((with_reducible refine gate_callee (f := 90) rfl ?_); refine goesL_ (some 14) rfl rfl Try.func90 (by kernel_rfl) rfl #[.agg #[.slice A0_0 l0.length c0_0, .slice A0_1 l1.length c0_1]] rfl (pY36) ?_; (refine (impl_copyBook.calls k _ _ l0 _ _ l1 c1a c1b _ (Kd.C_below HR0_0.1 HB.1) HC0_0.1 (Kd.C_below HR0_1.1 HB.1) HC0_1.1 D2.1).mono ?_); rintro e_ W4 ⟨_, _, rfl, ho0, ho1, hb⟩; refine ⟨_, rfl, ?_⟩; have HB0 := Aside0.mk (show w.heap.size ≤ W3.heap.size from HB.1.size); have hk_ : Kept W3 W4 (fun _ => False) := Kept.noth hb; have LEW4 := Aside0.mk (show W3.heap.size ≤ W4.heap.size from hk_.1); have nb3_ := Aside0.mk (blk_kept BK3.1 hk_ (fun h => h)); have nb6_ := Aside0.mk (blk_kept BK6.1 hk_ (fun h => h)); clear BK3 BK6; have BK3 := nb3_; have BK6 := nb6_; clear nb3_ nb6_; have n_ := Aside0.mk (below_step (HB.1) hb); clear HB; have HB := n_; clear n_; have n_ := Aside0.mk (BkS.made (n := W3.heap.size) ho0 ho1 (HB0.out) (Nat.le_refl _)); have KC := n_; clear n_ ho0 ho1; obtain ⟨Ac0, cc0, Ac1, cc1, e0_, e1_⟩ := KC.out.slices; subst e0_; subst e1_; (try clear hb); (try clear hk_); (try clear hkk); (try clear hbb); (try clear hcz3_0 hcz3_1 hfz3_0 hfz3_1); have hcz3_0 : W4.cell? ⟨gb3, 0, none⟩ = some (.slice A0_0 l0.length c0_0) := (blk_cell BK3.1 0).trans rfl; have hcz3_1 : W4.cell? ⟨gb3, 1, none⟩ = some (.slice A0_1 l1.length c0_1) := (blk_cell BK3.1 1).trans rfl; have hfz3_0 := blk_frozen BK3.1 0; have hfz3_1 := blk_frozen BK3.1 1; (try clear hcz6_0 hcz6_1 hfz6_0 hfz6_1); have hcz6_0 : W4.cell? ⟨gb6, 0, none⟩ = some (.slice none 0 0) := (blk_cell BK6.1 0).trans rfl; have hcz6_1 : W4.cell? ⟨gb6, 1, none⟩ = some (.slice none 0 0) := (blk_cell BK6.1 1).trans rfl; have hfz6_0 := blk_frozen BK6.1 0; have hfz6_1 := blk_frozen BK6.1 1; (try clear HB0)) | ((with_reducible refine gate_dst (N := 8) rfl ?_); refine box_event ?hg (N := 8) ?hd (cs := #[.slice none 0 0, .slice none 0 0]) (t := 31) ?hr ?_; (case hd => rfl); (case hg => rfl); (case hr => first | (go_simp; done) | (go_simp; rfl)); intro gb8 hg_ W5 hbox hb; have hk_ : Kept W4 W5 (fun _ => False) := Kept.noth hb; have LEW5 := Aside0.mk (show W4.heap.size ≤ W5.heap.size from hk_.1); have GE8 := Aside0.mk (show w.heap.size ≤ gb8 from Nat.le_trans HB.1.size (Nat.le_of_eq hg_.symm)); have GL8 := Aside0.mk (show W4.heap.size ≤ gb8 from Nat.le_of_eq hg_.symm); have GH8 := Aside0.mk (show gb8 < W5.heap.size from blk_lt hbox); have n0_ := Aside0.mk (BkS.kept KC.out hk_ (fun _ _ _ h => h)); have nb3_ := Aside0.mk (blk_kept BK3.1 hk_ (fun h => h)); have nb6_ := Aside0.mk (blk_kept BK6.1 hk_ (fun h => h)); clear KC BK3 BK6; have KC := n0_; have BK3 := nb3_; have BK6 := nb6_; clear n0_ nb3_ nb6_; have n_ := Aside0.mk (below_step HB.1 hb); clear HB; have HB := n_; clear n_; have BK8 := Aside0.mk hbox; clear hb hbox hg_ hk_; have nb8_3 : gb8 ≠ gb3 := (by have := LEW1.1; have := GL3.1; have := GH3.1; have := LEW2.1; have := GL6.1; have := GH6.1; have := LEW3.1; have := LEW4.1; have := LEW5.1; have := GL8.1; have := GH8.1;  omega); have nb3_8 : gb3 ≠ gb8 := (by have := LEW1.1; have := GL3.1; have := GH3.1; have := LEW2.1; have := GL6.1; have := GH6.1; have := LEW3.1; have := LEW4.1; have := LEW5.1; have := GL8.1; have := GH8.1;  omega); have nb8_6 : gb8 ≠ gb6 := (by have := LEW1.1; have := GL3.1; have := GH3.1; have := LEW2.1; have := GL6.1; have := GH6.1; have := LEW3.1; have := LEW4.1; have := LEW5.1; have := GL8.1; have := GH8.1;  omega); have nb6_8 : gb6 ≠ gb8 := (by have := LEW1.1; have := GL3.1; have := GH3.1; have := LEW2.1; have := GL6.1; have := GH6.1; have := LEW3.1; have := LEW4.1; have := LEW5.1; have := GL8.1; have := GH8.1;  omega); (try clear hcz8_0 hcz8_1 hfz8_0 hfz8_1); have hcz8_0 : W5.cell? ⟨gb8, 0, none⟩ = some (.slice none 0 0) := (blk_cell BK8.1 0).trans rfl; have hcz8_1 : W5.cell? ⟨gb8, 1, none⟩ = some (.slice none 0 0) := (blk_cell BK8.1 1).trans rfl; have hfz8_0 := blk_frozen BK8.1 0; have hfz8_1 := blk_frozen BK8.1 1; (try clear hcz3_0 hcz3_1 hfz3_0 hfz3_1); have hcz3_0 : W5.cell? ⟨gb3, 0, none⟩ = some (.slice A0_0 l0.length c0_0) := (blk_cell BK3.1 0).trans rfl; have hcz3_1 : W5.cell? ⟨gb3, 1, none⟩ = some (.slice A0_1 l1.length c0_1) := (blk_cell BK3.1 1).trans rfl; have hfz3_0 := blk_frozen BK3.1 0; have hfz3_1 := blk_frozen BK3.1 1; (try clear hcz6_0 hcz6_1 hfz6_0 hfz6_1); have hcz6_0 : W5.cell? ⟨gb6, 0, none⟩ = some (.slice none 0 0) := (blk_cell BK6.1 0).trans rfl; have hcz6_1 : W5.cell? ⟨gb6, 1, none⟩ = some (.slice none 0 0) := (blk_cell BK6.1 1).trans rfl; have hfz6_0 := blk_frozen BK6.1 0; have hfz6_1 := blk_frozen BK6.1 1) | ((with_reducible refine gate_callee (f := 77) rfl ?_); refine goesL_ (some 17) rfl rfl Try.func77 (by kernel_rfl) rfl #[.string a1] rfl (pY36) ?_; (refine (impl_name.calls k a1 true _ D3.1).mono ?_); rintro e_ W6 ⟨rfl, hb⟩; refine ⟨_, rfl, ?_⟩; obtain ⟨nd_, hd_⟩ := hb; have hb : Below ((W5.setCell ⟨gb8, 0, none⟩ (.slice Ac0 c1a.length cc0)).setCell ⟨gb8, 1, none⟩ (.slice Ac1 c1b.length cc1)).heap.size ((W5.setCell ⟨gb8, 0, none⟩ (.slice Ac0 c1a.length cc0)).setCell ⟨gb8, 1, none⟩ (.slice Ac1 c1b.length cc1)) W6 := hd_ ▸ pw_below_drewN (Below.refl _ _) nd_; clear hd_ nd_; have HB0 := Aside0.mk (show w.heap.size ≤ W5.heap.size from HB.1.size); have hk_ : Kept W5 W6 (fun k => k = gb8) := (Kept.two (w := W5) (g := gb8) 0 1 (.slice Ac0 c1a.length cc0) (.slice Ac1 c1b.length cc1)).below hb; have LEW6 := Aside0.mk (show W5.heap.size ≤ W6.heap.size from hk_.1); have n0_ := Aside0.mk (BkS.kept KC.out hk_ (fun k_ h1_ h2_ e_ => by have := LEW1.1; have := GL3.1; have := GH3.1; have := LEW2.1; have := GL6.1; have := GH6.1; have := LEW3.1; have := LEW4.1; have := LEW5.1; have := GL8.1; have := GH8.1;  omega)); have nb3_ := Aside0.mk (blk_kept BK3.1 hk_ (fun e_ => by have := LEW1.1; have := GL3.1; have := GH3.1; have := LEW2.1; have := GL6.1; have := GH6.1; have := LEW3.1; have := LEW4.1; have := LEW5.1; have := GL8.1; have := GH8.1;  omega)); have nb6_ := Aside0.mk (blk_kept BK6.1 hk_ (fun e_ => by have := LEW1.1; have := GL3.1; have := GH3.1; have := LEW2.1; have := GL6.1; have := GH6.1; have := LEW3.1; have := LEW4.1; have := LEW5.1; have := GL8.1; have := GH8.1;  omega)); clear KC BK3 BK6; have KC := n0_; have BK3 := nb3_; have BK6 := nb6_; clear n0_ nb3_ nb6_; have nb_ := Aside0.mk (blk_below (g := gb8) (o := .cells #[.slice Ac0 c1a.length cc0, .slice Ac1 c1b.length cc1] 31 (0, 0)) (blk_put (cs := #[.slice Ac0 c1a.length cc0, .slice none 0 0]) (blk_put (cs := #[.slice none 0 0, .slice none 0 0]) BK8.1 0 _ rfl) 1 _ rfl) hb); clear BK8; have BK8 := nb_; clear nb_; have n_ := Aside0.mk (below_step (below_set (below_set HB.1 GE8.1) GE8.1) hb); clear HB; have HB := n_; clear n_; (try clear hb); (try clear hk_); (try clear hkk); (try clear hbb); (try clear hcz3_0 hcz3_1 hfz3_0 hfz3_1); have hcz3_0 : W6.cell? ⟨gb3, 0, none⟩ = some (.slice A0_0 l0.length c0_0) := (blk_cell BK3.1 0).trans rfl; have hcz3_1 : W6.cell? ⟨gb3, 1, none⟩ = some (.slice A0_1 l1.length c0_1) := (blk_cell BK3.1 1).trans rfl; have hfz3_0 := blk_frozen BK3.1 0; have hfz3_1 := blk_frozen BK3.1 1; (try clear hcz8_0 hcz8_1 hfz8_0 hfz8_1); have hcz8_0 : W6.cell? ⟨gb8, 0, none⟩ = some (.slice Ac0 c1a.length cc0) := (blk_cell BK8.1 0).trans rfl; have hcz8_1 : W6.cell? ⟨gb8, 1, none⟩ = some (.slice Ac1 c1b.length cc1) := (blk_cell BK8.1 1).trans rfl; have hfz8_0 := blk_frozen BK8.1 0; have hfz8_1 := blk_frozen BK8.1 1; (try clear hcz6_0 hcz6_1 hfz6_0 hfz6_1); have hcz6_0 : W6.cell? ⟨gb6, 0, none⟩ = some (.slice none 0 0) := (blk_cell BK6.1 0).trans rfl; have hcz6_1 : W6.cell? ⟨gb6, 1, none⟩ = some (.slice none 0 0) := (blk_cell BK6.1 1).trans rfl; have hfz6_0 := blk_frozen BK6.1 0; have hfz6_1 := blk_frozen BK6.1 1; (try clear HB0)) | (go_at_call 74; (refine (impl_of.calls k _ _ l2 _ _ l0 true _ (Kd.C_below HR2.1 HB.1) HC2.1 (Kd.C_below HR0_0.1 HB.1) HC0_0.1 D4.1).mono ?_); rintro e_ W7 ⟨rfl, hb⟩; obtain ⟨nd_, hd_⟩ := hb; have hb : Below W6.heap.size W6 W7 := hd_ ▸ pw_below_drewN (Below.refl _ _) nd_; clear hd_ nd_; have HB0 := Aside0.mk (show w.heap.size ≤ W6.heap.size from HB.1.size); have hk_ : Kept W6 W7 (fun _ => False) := Kept.noth hb; have LEW7 := Aside0.mk (show W6.heap.size ≤ W7.heap.size from hk_.1); have n0_ := Aside0.mk (BkS.kept KC.out hk_ (fun _ _ _ h => h)); have nb3_ := Aside0.mk (blk_kept BK3.1 hk_ (fun h => h)); have nb6_ := Aside0.mk (blk_kept BK6.1 hk_ (fun h => h)); have nb8_ := Aside0.mk (blk_kept BK8.1 hk_ (fun h => h)); clear KC BK3 BK6 BK8; have KC := n0_; have BK3 := nb3_; have BK6 := nb6_; have BK8 := nb8_; clear n0_ nb3_ nb6_ nb8_; have n_ := Aside0.mk (below_step (HB.1) hb); clear HB; have HB := n_; clear n_; (try clear hb); (try clear hk_); (try clear hkk); (try clear hbb); (try clear hcz3_0 hcz3_1 hfz3_0 hfz3_1); have hcz3_0 : W7.cell? ⟨gb3, 0, none⟩ = some (.slice A0_0 l0.length c0_0) := (blk_cell BK3.1 0).trans rfl; have hcz3_1 : W7.cell? ⟨gb3, 1, none⟩ = some (.slice A0_1 l1.length c0_1) := (blk_cell BK3.1 1).trans rfl; have hfz3_0 := blk_frozen BK3.1 0; have hfz3_1 := blk_frozen BK3.1 1; (try clear hcz8_0 hcz8_1 hfz8_0 hfz8_1); have hcz8_0 : W7.cell? ⟨gb8, 0, none⟩ = some (.slice Ac0 c1a.length cc0) := (blk_cell BK8.1 0).trans rfl; have hcz8_1 : W7.cell? ⟨gb8, 1, none⟩ = some (.slice Ac1 c1b.length cc1) := (blk_cell BK8.1 1).trans rfl; have hfz8_0 := blk_frozen BK8.1 0; have hfz8_1 := blk_frozen BK8.1 1; (try clear hcz6_0 hcz6_1 hfz6_0 hfz6_1); have hcz6_0 : W7.cell? ⟨gb6, 0, none⟩ = some (.slice none 0 0) := (blk_cell BK6.1 0).trans rfl; have hcz6_1 : W7.cell? ⟨gb6, 1, none⟩ = some (.slice none 0 0) := (blk_cell BK6.1 1).trans rfl; have hfz6_0 := blk_frozen BK6.1 0; have hfz6_1 := blk_frozen BK6.1 1; (try clear HB0)) | ((with_reducible refine gate_callee (f := 84) rfl ?_); refine goesL_ (some 30) rfl rfl Try.func84 (by kernel_rfl) rfl #[.agg #[.slice A0_0 l0.length c0_0, .slice A0_1 l1.length c0_1], .string a1] rfl (pY36) ?_; (refine (impl_ShareBook_at.calls _ _ l0 _ _ l1 a1 i _ (Kd.C_below HR0_0.1 HB.1) HC0_0.1 (Kd.C_below HR0_1.1 HB.1) HC0_1.1 D5.1).mono ?_); rintro e_ W8 ⟨rfl, hb⟩; refine ⟨_, rfl, ?_⟩; have HB0 := Aside0.mk (show w.heap.size ≤ W7.heap.size from HB.1.size); have hk_ : Kept W7 W8 (fun _ => False) := Kept.noth hb; have LEW8 := Aside0.mk (show W7.heap.size ≤ W8.heap.size from hk_.1); have n0_ := Aside0.mk (BkS.kept KC.out hk_ (fun _ _ _ h => h)); have nb3_ := Aside0.mk (blk_kept BK3.1 hk_ (fun h => h)); have nb6_ := Aside0.mk (blk_kept BK6.1 hk_ (fun h => h)); have nb8_ := Aside0.mk (blk_kept BK8.1 hk_ (fun h => h)); clear KC BK3 BK6 BK8; have KC := n0_; have BK3 := nb3_; have BK6 := nb6_; have BK8 := nb8_; clear n0_ nb3_ nb6_ nb8_; have n_ := Aside0.mk (below_step (HB.1) hb); clear HB; have HB := n_; clear n_; (try clear hb); (try clear hk_); (try clear hkk); (try clear hbb); (try clear hcz3_0 hcz3_1 hfz3_0 hfz3_1); have hcz3_0 : W8.cell? ⟨gb3, 0, none⟩ = some (.slice A0_0 l0.length c0_0) := (blk_cell BK3.1 0).trans rfl; have hcz3_1 : W8.cell? ⟨gb3, 1, none⟩ = some (.slice A0_1 l1.length c0_1) := (blk_cell BK3.1 1).trans rfl; have hfz3_0 := blk_frozen BK3.1 0; have hfz3_1 := blk_frozen BK3.1 1; (try clear hcz8_0 hcz8_1 hfz8_0 hfz8_1); have hcz8_0 : W8.cell? ⟨gb8, 0, none⟩ = some (.slice Ac0 c1a.length cc0) := (blk_cell BK8.1 0).trans rfl; have hcz8_1 : W8.cell? ⟨gb8, 1, none⟩ = some (.slice Ac1 c1b.length cc1) := (blk_cell BK8.1 1).trans rfl; have hfz8_0 := blk_frozen BK8.1 0; have hfz8_1 := blk_frozen BK8.1 1; (try clear HB0)))
 have n0_ := Aside0.mk (BkS.kept KC.out (w' := W8.drew) (Kept.noth (below_drew1 (Below.refl _ _))) (fun _ _ _ h => h))
 have n1_ := Aside0.mk (blk_drew BK3.1)
 have n2_ := Aside0.mk (blk_drew BK6.1)
 have n3_ := Aside0.mk (blk_drew BK8.1)
 have n4_ := Aside0.mk (below_drew1 HB.1)
 have nle_ := Aside0.mk (show W8.heap.size ≤ W8.drew.heap.size from Nat.le_refl _)
 clear KC BK3 BK6 BK8 HB
 have KC := n0_
 have BK3 := n1_
 have BK6 := n2_
 have BK8 := n3_
 have HB := n4_
 clear n0_ n1_ n2_ n3_ n4_
 refine start_ (n := 10) (S := fun w' => w'.cell? ⟨gb8, 0, none⟩ = some (.slice Ac0 c1a.length cc0) ∧ w'.cell? ⟨gb8, 1, none⟩ = some (.slice Ac1 c1b.length cc1)) (ds := [9]) #[ff,ff,ff,ff,ff,ff,ff,ff,ff,ff] (by kernel_rfl) rfl rfl ⟨(blk_cell (BK8.1) 0).trans rfl, (blk_cell (BK8.1) 1).trans rfl⟩ (fun hHeld => ?_)
 generalize W8.drew = W9 at KC BK3 BK6 BK8 HB nle_ hHeld ⊢
 have LEW9 := nle_
 clear nle_
 refine pU0 (i := 0) (N := some 39) #[tt,ff,ff,ff,ff,ff,ff,ff,ff,ff] ?_
 refine pU0 (i := 2) (N := some 41) #[tt,ff,tt,ff,ff,ff,ff,ff,ff,ff] ?_
 refine pU0 (i := 3) (N := some 42) #[tt,ff,tt,tt,ff,ff,ff,ff,ff,ff] ?_
 refine tK2_ (i := 1) (N := some 40) #[tt,tt,tt,tt,ff,ff,ff,ff,ff,ff] ?_
 refine one_ (i := 4) (N := some 43) #[tt,tt,tt,tt,tt,ff,ff,ff,ff,ff] rfl rfl (by kernel_rfl) (by decide) (fun K hK => ?_)
 refine goes_ Try.func94 (by kernel_rfl) rfl #[.slice A2 l2.length c2] (by rfl) rfl rfl (pY36) ?_
 (refine (slices_Clone_string_string.calls _ _ l2 nd _ (Kd.C_below HR2.1 HB.1) HC2.1 D6.1).mono ?_)
 rintro e_ W10 ⟨_, rfl, ho0, hb⟩
 refine ⟨_, rfl, ?_⟩
 have HB0 := Aside0.mk (show w.heap.size ≤ W9.heap.size from HB.1.size)
 have hk_ : Kept W9 W10 (fun _ => False) := Kept.noth hb
 have LEW10 := Aside0.mk (show W9.heap.size ≤ W10.heap.size from hk_.1)
 have n0_ := Aside0.mk (BkS.kept KC.out hk_ (fun _ _ _ h => h))
 have nb3_ := Aside0.mk (blk_kept BK3.1 hk_ (fun h => h))
 have nb6_ := Aside0.mk (blk_kept BK6.1 hk_ (fun h => h))
 have nb8_ := Aside0.mk (blk_kept BK8.1 hk_ (fun h => h))
 clear KC BK3 BK6 BK8
 have KC := n0_
 have BK3 := nb3_
 have BK6 := nb6_
 have BK8 := nb8_
 clear n0_ nb3_ nb6_ nb8_
 have n_ := Aside0.mk (below_step (HB.1) hb)
 clear HB
 have HB := n_
 clear n_
 have n_ := Aside0.mk (RwS.made (n := W9.heap.size) ho0 (HB0.out) (Nat.le_refl _))
 have KN := n_
 clear n_ ho0
 obtain ⟨An0, cn0, e0_⟩ := KN.out.slices
 subst e0_
 (try clear hb)
 (try clear hk_)
 (try clear hkk)
 (try clear hbb)
 (try clear HB0)
 refine hK.out _ _ ⟨(blk_cell (BK8.1) 0).trans rfl, (blk_cell (BK8.1) 1).trans rfl⟩ (fun hHeld => ?_)
 clear hK K
 refine norm_ (a' := ?_) ?_ ?_
 rotate_left
 ·show Act.put _ (some 43) _ = _
  simp only [pW]
  rfl
 refine pU0 (i := 5) (N := some 44) #[tt,tt,tt,tt,tt,tt,ff,ff,ff,ff] ?_
 refine one_ (i := 6) (N := some 45) #[tt,tt,tt,tt,tt,tt,tt,ff,ff,ff] rfl rfl (by kernel_rfl) (by decide) (fun K hK => ?_)
 refine value_ (w1 := ?_) (v := ?_) (by rfl) rfl ?_ ?_
 rotate_left 2
 ·go_simp
  constructor
  ·rfl
  ·rfl
 refine hK.out _ _ ⟨(blk_cell (blk_alloc BK8.1 _) 0).trans rfl, (blk_cell (blk_alloc BK8.1 _) 1).trans rfl⟩ (fun hHeld => ?_)
 clear hK K
 refine norm_ (a' := ?_) ?_ ?_
 rotate_left
 ·show Act.put _ (some 45) _ = _
  simp only [pW]
  rfl
 have hAP := Aside0.mk (BkS.appM a1 KC.out KN.out (by have := LEW1.1; have := GL3.1; have := GH3.1; have := LEW2.1; have := GL6.1; have := GH6.1; have := LEW3.1; have := LEW4.1; have := LEW5.1; have := GL8.1; have := GH8.1; have := LEW6.1; have := LEW7.1; have := LEW8.1; have := LEW9.1; have := LEW10.1;  omega) (by have := LEW1.1; have := GL3.1; have := GH3.1; have := LEW2.1; have := GL6.1; have := GH6.1; have := LEW3.1; have := LEW4.1; have := LEW5.1; have := GL8.1; have := GH8.1; have := LEW6.1; have := LEW7.1; have := LEW8.1; have := LEW9.1; have := LEW10.1;  omega) (by have := LEW1.1; have := GL3.1; have := GH3.1; have := LEW2.1; have := GL6.1; have := GH6.1; have := LEW3.1; have := LEW4.1; have := LEW5.1; have := GL8.1; have := GH8.1; have := LEW6.1; have := LEW7.1; have := LEW8.1; have := LEW9.1; have := LEW10.1;  omega))
 refine one_ (i := 7) (N := some 46) #[tt,tt,tt,tt,tt,tt,tt,tt,ff,ff] rfl rfl (by kernel_rfl) (by decide) (fun K hK => ?_)
 refine Kd.S_append_step k56 (w0 := w) w.heap.size (by rfl) (.tmp 40) (.tmp 45) 29 56 (.agg #[(.string ⟨#[]⟩), (.slice none 0 0), (.slice none 0 0)]) 64 rfl Try.underlying29 info56 rfl (by decide) (by omega) (.slice Ac1 c1b.length cc1) c1b (⟨a1, [], nd⟩ : S56) [.string a1, .slice none 0 0, .slice An0 nd.length cn0] (fun k => W3.heap.size ≤ k ∧ some k ≠ (.slice Ac0 c1a.length cc0 : Value).ownBlock) (fun k => some k = (.slice An0 nd.length cn0 : Value).ownBlock) rfl rfl hAP.out.1 hAP.out.2.1 hAP.out.2.2.1 hAP.out.2.2.2 HB.1 HB.1.size (by have := LEN.out; omega) ?_
 intro v_ W11 ho_ hb_ hg_ hat_
 have hk_ : Kept W10 W11 (fun k => some k = (.slice Ac1 c1b.length cc1 : Value).ownBlock) := Kept.of_grown hg_ (Kept.refl W10 _) (fun k e => Or.inl e.symm)
 have LEW11 := Aside0.mk (show W10.heap.size ≤ W11.heap.size from hk_.1)
 have nk_ := Aside0.mk (BkS.appB KC.out ho_ hk_ (by have := LEW1.1; have := GL3.1; have := GH3.1; have := LEW2.1; have := GL6.1; have := GH6.1; have := LEW3.1; have := LEW4.1; have := LEW5.1; have := GL8.1; have := GH8.1; have := LEW6.1; have := LEW7.1; have := LEW8.1; have := LEW9.1; have := LEW10.1; have := LEW11.1;  omega))
 have nb3_ := Aside0.mk (blk_kept BK3.1 hk_ (fun e_ => Kd.S_ne KC.out.2 BK3.1 (by decide) e_))
 have nb6_ := Aside0.mk (blk_kept BK6.1 hk_ (fun e_ => Kd.S_ne KC.out.2 BK6.1 (by decide) e_))
 have nb8_ := Aside0.mk (blk_kept BK8.1 hk_ (fun e_ => Kd.S_ne KC.out.2 BK8.1 (by decide) e_))
 clear KC KN HB hAP hat_ ho_ hg_ BK3 BK6 BK8
 have KC := nk_
 have HB := Aside0.mk hb_
 have BK3 := nb3_
 have BK6 := nb6_
 have BK8 := nb8_
 clear nk_ hb_ hk_ nb3_ nb6_ nb8_
 generalize hyy : c1b ++ [(⟨a1, [], nd⟩ : S56)] = y at KC
 have HYY := Aside0.mk hyy
 clear hyy
 have HYL : Aside0 (y.length = c1b.length + 1) := ⟨by rw [← HYY.out, List.length_append]; rfl⟩
 obtain ⟨ge, ce, ee_, _, _, _⟩ := Kd.S_form KC.out.2 (by have := HYL.out; omega)
 subst ee_
 refine hK.out _ _ ⟨(blk_cell (BK8.1) 0).trans rfl, (blk_cell (BK8.1) 1).trans rfl⟩ (fun hHeld => ?_)
 clear hK K
 refine norm_ (a' := ?_) ?_ ?_
 rotate_left
 ·show Act.put _ (some 46) _ = _
  simp only [pW]
  rfl
 refine pU0 (i := 8) (N := some 47) #[tt,tt,tt,tt,tt,tt,tt,tt,tt,ff] ?_
 refine last_ (i := 9) (N := none) #[tt,tt,tt,tt,tt,tt,tt,tt,tt,tt] rfl rfl (by kernel_rfl) (by decide) (fun K hK => ?_)
 have hs8 : W11.cell? ⟨gb8, 1, none⟩ = some (.slice Ac1 c1b.length cc1) := (blk_cell BK8.1 1).trans rfl
 have hfs8 := blk_frozen BK8.1 1
 refine skip_ (w1 := (W11.setCell ⟨gb8, 1, none⟩ (.slice (some ⟨ge, 0, none⟩) y.length ce))) (by rfl) rfl ?_ ?_
 ·go_simp
  (try rfl)
 refine hK.out _ _ ?_
 clear hK K
 refine done_ (by kernel_rfl) ?_
 clear hs8 hfs8
 have nk_ := Aside0.mk (BkS.far (g := gb8) (j := 1) (u := .slice (some ⟨ge, 0, none⟩) y.length ce) KC.out BK8.1 (by decide))
 have hk_ : Kept W11 (W11.setCell ⟨gb8, 1, none⟩ (.slice (some ⟨ge, 0, none⟩) y.length ce)) (fun k => k = gb8) := Kept.setCell (p := ⟨gb8, 1, none⟩) (Kept.refl W11 (fun k => k = gb8)) (Or.inl rfl) _
 have nb3_ := Aside0.mk (blk_kept BK3.1 hk_ (fun e_ => nb3_8 e_))
 have nb6_ := Aside0.mk (blk_kept BK6.1 hk_ (fun e_ => nb6_8 e_))
 have nb8_ := Aside0.mk (blk_put (cs := #[.slice Ac0 c1a.length cc0, .slice Ac1 c1b.length cc1]) BK8.1 1 (.slice (some ⟨ge, 0, none⟩) y.length ce) rfl)
 have nB_ : Aside0 (Below w.heap.size w (W11.setCell ⟨gb8, 1, none⟩ (.slice (some ⟨ge, 0, none⟩) y.length ce))) := ⟨below_set HB.1 GE8.1⟩
 have nle_ := Aside0.mk (show W11.heap.size ≤ (W11.setCell ⟨gb8, 1, none⟩ (.slice (some ⟨ge, 0, none⟩) y.length ce)).heap.size from hk_.1)
 clear KC HB hk_ BK3 BK6 BK8
 have KC := nk_
 have HB := nB_
 have BK3 := nb3_
 have BK6 := nb6_
 have BK8 := nb8_
 clear nk_ nB_ nb3_ nb6_ nb8_
 change Aside0 ((W11.setCell ⟨gb8, 1, none⟩ (.slice (some ⟨ge, 0, none⟩) y.length ce)).heap[gb8]? = some (.cells #[.slice Ac0 c1a.length cc0, .slice (some ⟨ge, 0, none⟩) y.length ce] 31 (0, 0))) at BK8
 generalize (W11.setCell ⟨gb8, 1, none⟩ (.slice (some ⟨ge, 0, none⟩) y.length ce)) = W12 at KC HB nle_ BK3 BK6 BK8 ⊢
 have LEW12 := nle_
 clear nle_
 (try clear hcz8_0 hcz8_1 hfz8_0 hfz8_1)
 have hcz8_0 : W12.cell? ⟨gb8, 0, none⟩ = some (.slice Ac0 c1a.length cc0) := (blk_cell BK8.1 0).trans rfl
 have hcz8_1 : W12.cell? ⟨gb8, 1, none⟩ = some (.slice (some ⟨ge, 0, none⟩) y.length ce) := (blk_cell BK8.1 1).trans rfl
 have hfz8_0 := blk_frozen BK8.1 0
 have hfz8_1 := blk_frozen BK8.1 1
 go_wp2_with (first | ((with_reducible refine gate_callee (f := 103) rfl ?_); refine goesL_ (some 52) rfl rfl Try.func103 (by kernel_rfl) rfl #[.iface 29 (.slice (some ⟨ge, 0, none⟩) y.length ce), .func (.func 104) #[] #[.pointer (some ⟨gb8, 0, none⟩)]] rfl (pY36) ?_; (refine (enter_sort_all KC.out.2 BK8.1 (fun e_ => by have h_ := Kd.S_ne KC.out.2 BK8.1 (by decide); exact h_ (by rw [e_]; rfl)) (by have := HYL.out; omega) (by have := LEN.out; have := HYL.out; omega) HB.1).mono ?_); rintro e_ W13 ⟨rfl, xs, hpm, hpw, hs_, hb_, hk_⟩; refine ⟨_, rfl, ?_⟩; have hxs : xs = insB c1b ⟨a1, [], nd⟩ := asc_unique (hpm.trans (by rw [← HYY.out]; exact (insB_perm c1b ⟨a1, [], nd⟩).symm)) hpw CAS.out; have LEW13 := Aside0.mk (show W12.heap.size ≤ W13.heap.size from hk_.1); have nk_ := Aside0.mk (BkS.sorted KC.out hs_ hk_); have nb3_ := Aside0.mk (blk_kept BK3.1 hk_ (fun e_ => by have h_ := Kd.S_ne KC.out.2 BK3.1 (by decide); exact h_ (by rw [e_]; rfl))); have nb6_ := Aside0.mk (blk_kept BK6.1 hk_ (fun e_ => by have h_ := Kd.S_ne KC.out.2 BK6.1 (by decide); exact h_ (by rw [e_]; rfl))); have nb8_ := Aside0.mk (blk_kept BK8.1 hk_ (fun e_ => by have h_ := Kd.S_ne KC.out.2 BK8.1 (by decide); exact h_ (by rw [e_]; rfl))); clear KC HB hs_ hk_ hpm hpw BK3 BK6 BK8; have KC := nk_; have HB := Aside0.mk hb_; clear nk_ hb_; have BK3 := nb3_; have BK6 := nb6_; have BK8 := nb8_; clear nb3_ nb6_ nb8_; (try clear hcz8_0 hcz8_1 hfz8_0 hfz8_1); have hcz8_0 : W13.cell? ⟨gb8, 0, none⟩ = some (.slice Ac0 c1a.length cc0) := (blk_cell BK8.1 0).trans rfl; have hcz8_1 : W13.cell? ⟨gb8, 1, none⟩ = some (.slice (some ⟨ge, 0, none⟩) y.length ce) := (blk_cell BK8.1 1).trans rfl; have hfz8_0 := blk_frozen BK8.1 0; have hfz8_1 := blk_frozen BK8.1 1; (try clear hcz6_0 hcz6_1 hfz6_0 hfz6_1); have hcz6_0 : W13.cell? ⟨gb6, 0, none⟩ = some (.slice none 0 0) := (blk_cell BK6.1 0).trans rfl; have hcz6_1 : W13.cell? ⟨gb6, 1, none⟩ = some (.slice none 0 0) := (blk_cell BK6.1 1).trans rfl; have hfz6_0 := blk_frozen BK6.1 0; have hfz6_1 := blk_frozen BK6.1 1))
 (try simp only [Exit.inBlock, Exit.then]); refine bodyPost_ret (results_ct rfl _ _ gb6 31 #[.slice Ac0 c1a.length cc0, .slice (some ⟨ge, 0, none⟩) y.length ce] (0, 0) _ rfl (blk_put (cs := #[.slice Ac0 c1a.length cc0, .slice none 0 0]) (blk_put (cs := #[.slice none 0 0, .slice none 0 0]) (BK6.1) 0 _ rfl) 1 _ rfl) Try.underlying31 rfl (by kernel_rfl)) rfl ?_
 have k1_ := Aside0.mk (BkS.far (g := gb6) (j := 0) (u := .slice Ac0 c1a.length cc0) KC.out BK6.1 (by decide))
 have k2_ := BkS.far (g := gb6) (j := 1) (u := .slice (some ⟨ge, 0, none⟩) y.length ce) k1_.out (blk_put (cs := #[.slice none 0 0, .slice none 0 0]) BK6.1 0 (.slice Ac0 c1a.length cc0) rfl) (by decide)
 rw [hxs] at k2_
 exact ⟨_, _, rfl, Kd.R_mono k2_.1 (fun _ _ => trivial), Kd.S_mono k2_.2 (fun _ h_ => h_.2), below_set (below_set HB.1 GE6.1) GE6.1⟩
end Go.Proofs.Ytaofjgnhapnndaa.Q
namespace Go.Proofs.Ytaofjgnhapnndaa.Q
open Go.RowKit Go.Proofs.YtaofjgnhapnndaaW.PrintWords Go.Proofs.YtaofjgnhapnndaaW.PrintLast Go.Proofs.YtaofjgnhapnndaaW.PrintMore
set_option linter.unusedVariables false
set_option linter.unusedSimpArgs false
noncomputable def laws_FnExactShareEnter.t (k : Nat) (l0 : List ByteArray) (l1 : List S94) (a1 : ByteArray) (l2 : List ByteArray) : Option Bool :=
 (laws_toShareBook.f k l0 l1).bind fun t1 => (laws_toStringS.f k l2).bind fun u1 => (spec_ShareEnter.f k t1.1 t1.2 a1 u1).bind fun w => (laws_toShareBook.f k l0 l1).bind fun x => (laws_toStringS.f k l2).bind fun x2 => (impl_ShareEnter.f k x.1 x.2 a1 x2).bind fun g => (laws_eqShareBook.f k g.1 g.2.1 w.1 w.2.1).bind fun e1 => if e1 = true ∧ g.2.2 = w.2.2 then (laws_toShareBook.f k l0 l1).bind fun t2 => (laws_eqShareBook.f k x.1 x.2 t2.1 t2.2).bind fun e2 => if e2 = true then (laws_toStringS.f k l2).bind fun u2 => (laws_eqStringS.f k x2 u2).bind fun e3 => if e3 = true then (laws_markShareBook.fB k x.1 x.2 1).bind fun p => (laws_markStringS.f k x2 p.1).bind fun p2 => if 0 ≤ p2.1 then (laws_eqShareBook.f k g.1 g.2.1 w.1 w.2.1).bind fun e4 => if e4 = true then (laws_markShareBook.fB k g.1 g.2.1 1).bind fun m => (laws_heldShareBook.f k m.2.1 m.2.2 1).bind fun q => if 0 ≤ q ∧ q = m.1 then (laws_toShareBook.f k l0 l1).bind fun t3 => (laws_toStringS.f k l2).bind fun u3 => (impl_ShareEnter.f k t3.1 t3.2 a1 u3).bind fun h => (laws_eqShareBook.f k h.1 h.2.1 w.1 w.2.1).bind fun e5 => if e5 = true ∧ h.2.2 = w.2.2 then (laws_heldShareBook.f k m.2.1 m.2.2 1).bind fun q2 => if 0 ≤ q2 ∧ q2 = m.1 then some true else none else none else none else none else none else none else none else none
noncomputable def laws_FnExactShareEnter.f (k : Nat) (l0 : List ByteArray) (l1 : List S94) (a1 : ByteArray) (l2 : List ByteArray) : Option Bool :=
 if (a1.size : Int) > 1048576 then some true else (laws_szShareBook.f k l0 l1 1048576).bind fun z => if z < 0 then some true else (laws_szStringS.f k l2 z).bind fun z2 => if z2 < 0 then some true else laws_FnExactShareEnter.t k l0 l1 a1 l2
set_option maxHeartbeats 16000000 in
set_option maxRecDepth 100000 in
theorem laws_FnExactShareEnter.calls (k : Nat) (A0_0 : Option Addr) (c0_0 : Nat) (l0 : List ByteArray) (A0_1 : Option Addr) (c0_1 : Nat) (l1 : List S94) (a1 : ByteArray) (A2 : Option Addr) (c2 : Nat) (l2 : List ByteArray) (r : Bool) (w : World) (hr0_0 : Kd.C Kd.string w A0_0 l0.length l0) (hc0_0 : l0.length ≤ c0_0) (hr0_1 : Kd.C k94 w A0_1 l1.length l1) (hc0_1 : l1.length ≤ c0_1) (hr2 : Kd.C Kd.string w A2 l2.length l2) (hc2 : l2.length ≤ c2) (h : laws_FnExactShareEnter.f k l0 l1 a1 l2 = some r) :
  Calls Try.prog 17 #[.agg #[.slice A0_0 l0.length c0_0, .slice A0_1 l1.length c0_1], .string a1, .slice A2 l2.length c2] w fun e w' => e = .returned (.bool r) ∧ Below w.heap.size w w' := by
 have hu26 := Try.underlying26
 have hu31 := Try.underlying31
 have HR0_0 := Aside0.mk hr0_0
 have HC0_0 := Aside0.mk hc0_0
 clear hr0_0 hc0_0
 have HR0_1 := Aside0.mk hr0_1
 have HC0_1 := Aside0.mk hc0_1
 clear hr0_1 hc0_1
 have HR2 := Aside0.mk hr2
 have HC2 := Aside0.mk hc2
 clear hr2 hc2
 have HB := Aside0.mk (Below.refl w.heap.size w)
 unfold laws_FnExactShareEnter.f at h
 have H := h
 clear h
 by_cases c1 : (a1.size : Int) > 1048576
 ·rw [if_pos c1] at H
  have c1b0 : decide (1048576 < (a1.size : Int)) = true := decide_eq_true c1
  have c1b1 : decide (1048576 < a1.size) = true := decide_eq_true (by omega)
  obtain rfl := Option.some.inj H
  go_enter Try.func17, Try.ntmps17
  go_wp2_with (first | ((with_reducible refine gate_dst (N := 3) rfl ?_); refine box_event ?hg (N := 3) ?hd (cs := #[.slice A0_0 l0.length c0_0, .slice A0_1 l1.length c0_1]) (t := 26) ?hr ?_; (case hd => rfl); (case hg => rfl); (case hr => first | (go_simp; done) | (go_simp; rfl)); intro gb3 hg_ W1 hbox hb; have hk_ : Kept w W1 (fun _ => False) := Kept.noth hb; have LEW1 := Aside0.mk (show w.heap.size ≤ W1.heap.size from hk_.1); have GE3 := Aside0.mk (show w.heap.size ≤ gb3 from Nat.le_trans HB.1.size (Nat.le_of_eq hg_.symm)); have GL3 := Aside0.mk (show w.heap.size ≤ gb3 from Nat.le_of_eq hg_.symm); have GH3 := Aside0.mk (show gb3 < W1.heap.size from blk_lt hbox); have n_ := Aside0.mk (below_step HB.1 hb); clear HB; have HB := n_; clear n_; have BK3 := Aside0.mk hbox; clear hb hbox hg_ hk_; (try clear hcz3_0 hcz3_1 hfz3_0 hfz3_1); have hcz3_0 : W1.cell? ⟨gb3, 0, none⟩ = some (.slice A0_0 l0.length c0_0) := (blk_cell BK3.1 0).trans rfl; have hcz3_1 : W1.cell? ⟨gb3, 1, none⟩ = some (.slice A0_1 l1.length c0_1) := (blk_cell BK3.1 1).trans rfl; have hfz3_0 := blk_frozen BK3.1 0; have hfz3_1 := blk_frozen BK3.1 1))
  go_ret
  exact ⟨rfl, HB.1⟩
 rw [if_neg c1] at H
 have c1b0 : decide (1048576 < (a1.size : Int)) = false := decide_eq_false c1
 have c1b1 : decide (1048576 < a1.size) = false := decide_eq_false (by omega)
 have H2 := Option.bind_eq_some_iff.mp H
 clear H
 obtain ⟨z, A10, H⟩ := H2
 have A1 := Aside0.mk A10
 clear A10
 by_cases cj : z < 0
 ·rw [if_pos cj] at H
  have c2b0 : decide (z < 0) = true := decide_eq_true cj
  obtain rfl := Option.some.inj H
  go_enter Try.func17, Try.ntmps17
  go_wp2_with (first | ((with_reducible refine gate_dst (N := 3) rfl ?_); refine box_event ?hg (N := 3) ?hd (cs := #[.slice A0_0 l0.length c0_0, .slice A0_1 l1.length c0_1]) (t := 26) ?hr ?_; (case hd => rfl); (case hg => rfl); (case hr => first | (go_simp; done) | (go_simp; rfl)); intro gb3 hg_ W1 hbox hb; have hk_ : Kept w W1 (fun _ => False) := Kept.noth hb; have LEW1 := Aside0.mk (show w.heap.size ≤ W1.heap.size from hk_.1); have GE3 := Aside0.mk (show w.heap.size ≤ gb3 from Nat.le_trans HB.1.size (Nat.le_of_eq hg_.symm)); have GL3 := Aside0.mk (show w.heap.size ≤ gb3 from Nat.le_of_eq hg_.symm); have GH3 := Aside0.mk (show gb3 < W1.heap.size from blk_lt hbox); have n_ := Aside0.mk (below_step HB.1 hb); clear HB; have HB := n_; clear n_; have BK3 := Aside0.mk hbox; clear hb hbox hg_ hk_; (try clear hcz3_0 hcz3_1 hfz3_0 hfz3_1); have hcz3_0 : W1.cell? ⟨gb3, 0, none⟩ = some (.slice A0_0 l0.length c0_0) := (blk_cell BK3.1 0).trans rfl; have hcz3_1 : W1.cell? ⟨gb3, 1, none⟩ = some (.slice A0_1 l1.length c0_1) := (blk_cell BK3.1 1).trans rfl; have hfz3_0 := blk_frozen BK3.1 0; have hfz3_1 := blk_frozen BK3.1 1) | ((with_reducible refine gate_callee (f := 21) rfl ?_); refine goesL_ (some 24) rfl rfl Try.func21 (by kernel_rfl) rfl #[.agg #[.slice A0_0 l0.length c0_0, .slice A0_1 l1.length c0_1], .int .i64 1048576] rfl (pY36) ?_; (refine (laws_szShareBook.calls k _ _ l0 _ _ l1 1048576 z _ (Kd.C_below HR0_0.1 HB.1) HC0_0.1 (Kd.C_below HR0_1.1 HB.1) HC0_1.1 A1.out).mono ?_); rintro e_ W2 ⟨rfl, hb⟩; refine ⟨_, rfl, ?_⟩; have HB0 := Aside0.mk (show w.heap.size ≤ W1.heap.size from HB.1.size); have hk_ : Kept W1 W2 (fun _ => False) := Kept.noth hb; have LEW2 := Aside0.mk (show W1.heap.size ≤ W2.heap.size from hk_.1); have nb3_ := Aside0.mk (blk_kept BK3.1 hk_ (fun h => h)); clear BK3; have BK3 := nb3_; clear nb3_; have n_ := Aside0.mk (below_step (HB.1) hb); clear HB; have HB := n_; clear n_; (try clear hb); (try clear hk_); (try clear hkk); (try clear hbb); (try clear hcz3_0 hcz3_1 hfz3_0 hfz3_1); have hcz3_0 : W2.cell? ⟨gb3, 0, none⟩ = some (.slice A0_0 l0.length c0_0) := (blk_cell BK3.1 0).trans rfl; have hcz3_1 : W2.cell? ⟨gb3, 1, none⟩ = some (.slice A0_1 l1.length c0_1) := (blk_cell BK3.1 1).trans rfl; have hfz3_0 := blk_frozen BK3.1 0; have hfz3_1 := blk_frozen BK3.1 1; (try clear HB0)))
  go_ret
  exact ⟨rfl, HB.1⟩
 rw [if_neg cj] at H
 have c2b0 : decide (z < 0) = false := decide_eq_false cj
 have H2 := Option.bind_eq_some_iff.mp H
 clear H
 obtain ⟨z2, A20, H⟩ := H2
 have A2_ := Aside0.mk A20
 clear A20
 by_cases c3 : z2 < 0
 ·rw [if_pos c3] at H
  have c3b0 : decide (z2 < 0) = true := decide_eq_true c3
  obtain rfl := Option.some.inj H
  go_enter Try.func17, Try.ntmps17
  go_wp2_with (first | ((with_reducible refine gate_dst (N := 3) rfl ?_); refine box_event ?hg (N := 3) ?hd (cs := #[.slice A0_0 l0.length c0_0, .slice A0_1 l1.length c0_1]) (t := 26) ?hr ?_; (case hd => rfl); (case hg => rfl); (case hr => first | (go_simp; done) | (go_simp; rfl)); intro gb3 hg_ W1 hbox hb; have hk_ : Kept w W1 (fun _ => False) := Kept.noth hb; have LEW1 := Aside0.mk (show w.heap.size ≤ W1.heap.size from hk_.1); have GE3 := Aside0.mk (show w.heap.size ≤ gb3 from Nat.le_trans HB.1.size (Nat.le_of_eq hg_.symm)); have GL3 := Aside0.mk (show w.heap.size ≤ gb3 from Nat.le_of_eq hg_.symm); have GH3 := Aside0.mk (show gb3 < W1.heap.size from blk_lt hbox); have n_ := Aside0.mk (below_step HB.1 hb); clear HB; have HB := n_; clear n_; have BK3 := Aside0.mk hbox; clear hb hbox hg_ hk_; (try clear hcz3_0 hcz3_1 hfz3_0 hfz3_1); have hcz3_0 : W1.cell? ⟨gb3, 0, none⟩ = some (.slice A0_0 l0.length c0_0) := (blk_cell BK3.1 0).trans rfl; have hcz3_1 : W1.cell? ⟨gb3, 1, none⟩ = some (.slice A0_1 l1.length c0_1) := (blk_cell BK3.1 1).trans rfl; have hfz3_0 := blk_frozen BK3.1 0; have hfz3_1 := blk_frozen BK3.1 1) | ((with_reducible refine gate_callee (f := 21) rfl ?_); refine goesL_ (some 24) rfl rfl Try.func21 (by kernel_rfl) rfl #[.agg #[.slice A0_0 l0.length c0_0, .slice A0_1 l1.length c0_1], .int .i64 1048576] rfl (pY36) ?_; (refine (laws_szShareBook.calls k _ _ l0 _ _ l1 1048576 z _ (Kd.C_below HR0_0.1 HB.1) HC0_0.1 (Kd.C_below HR0_1.1 HB.1) HC0_1.1 A1.out).mono ?_); rintro e_ W2 ⟨rfl, hb⟩; refine ⟨_, rfl, ?_⟩; have HB0 := Aside0.mk (show w.heap.size ≤ W1.heap.size from HB.1.size); have hk_ : Kept W1 W2 (fun _ => False) := Kept.noth hb; have LEW2 := Aside0.mk (show W1.heap.size ≤ W2.heap.size from hk_.1); have nb3_ := Aside0.mk (blk_kept BK3.1 hk_ (fun h => h)); clear BK3; have BK3 := nb3_; clear nb3_; have n_ := Aside0.mk (below_step (HB.1) hb); clear HB; have HB := n_; clear n_; (try clear hb); (try clear hk_); (try clear hkk); (try clear hbb); (try clear hcz3_0 hcz3_1 hfz3_0 hfz3_1); have hcz3_0 : W2.cell? ⟨gb3, 0, none⟩ = some (.slice A0_0 l0.length c0_0) := (blk_cell BK3.1 0).trans rfl; have hcz3_1 : W2.cell? ⟨gb3, 1, none⟩ = some (.slice A0_1 l1.length c0_1) := (blk_cell BK3.1 1).trans rfl; have hfz3_0 := blk_frozen BK3.1 0; have hfz3_1 := blk_frozen BK3.1 1; (try clear HB0)) | ((with_reducible refine gate_callee (f := 30) rfl ?_); refine goesL_ (some 29) rfl rfl Try.func30 (by kernel_rfl) rfl #[.slice A2 l2.length c2, .int .i64 z] rfl (pY36) ?_; (refine (laws_szStringS.calls k _ _ l2 z z2 _ (Kd.C_below HR2.1 HB.1) HC2.1 A2_.out).mono ?_); rintro e_ W3 ⟨rfl, hb⟩; refine ⟨_, rfl, ?_⟩; obtain ⟨nd_, hd_⟩ := hb; have hb : Below W2.heap.size W2 W3 := hd_ ▸ pw_below_drewN (Below.refl _ _) nd_; clear hd_ nd_; have HB0 := Aside0.mk (show w.heap.size ≤ W2.heap.size from HB.1.size); have hk_ : Kept W2 W3 (fun _ => False) := Kept.noth hb; have LEW3 := Aside0.mk (show W2.heap.size ≤ W3.heap.size from hk_.1); have nb3_ := Aside0.mk (blk_kept BK3.1 hk_ (fun h => h)); clear BK3; have BK3 := nb3_; clear nb3_; have n_ := Aside0.mk (below_step (HB.1) hb); clear HB; have HB := n_; clear n_; (try clear hb); (try clear hk_); (try clear hkk); (try clear hbb); (try clear hcz3_0 hcz3_1 hfz3_0 hfz3_1); have hcz3_0 : W3.cell? ⟨gb3, 0, none⟩ = some (.slice A0_0 l0.length c0_0) := (blk_cell BK3.1 0).trans rfl; have hcz3_1 : W3.cell? ⟨gb3, 1, none⟩ = some (.slice A0_1 l1.length c0_1) := (blk_cell BK3.1 1).trans rfl; have hfz3_0 := blk_frozen BK3.1 0; have hfz3_1 := blk_frozen BK3.1 1; (try clear HB0)))
  go_ret
  exact ⟨rfl, HB.1⟩
 rw [if_neg c3] at H
 have c3b0 : decide (z2 < 0) = false := decide_eq_false c3
 unfold laws_FnExactShareEnter.t at H
 have H2 := Option.bind_eq_some_iff.mp H
 clear H
 obtain ⟨⟨t1a, t1b⟩, D1_, H⟩ := H2
 have D1 := Aside0.mk D1_
 clear D1_
 have H2 := Option.bind_eq_some_iff.mp H
 clear H
 obtain ⟨u1, D2_, H⟩ := H2
 have D2 := Aside0.mk D2_
 clear D2_
 have H2 := Option.bind_eq_some_iff.mp H
 clear H
 obtain ⟨⟨w1, w2, w3⟩, D3_, H⟩ := H2
 have D3 := Aside0.mk D3_
 clear D3_
 have H2 := Option.bind_eq_some_iff.mp H
 clear H
 obtain ⟨⟨x1, xb⟩, D4_, H⟩ := H2
 have D4 := Aside0.mk D4_
 clear D4_
 have H2 := Option.bind_eq_some_iff.mp H
 clear H
 obtain ⟨x2, D5_, H⟩ := H2
 have D5 := Aside0.mk D5_
 clear D5_
 have H2 := Option.bind_eq_some_iff.mp H
 clear H
 obtain ⟨⟨g1, g2, g3⟩, D6_, H⟩ := H2
 have D6 := Aside0.mk D6_
 clear D6_
 have H2 := Option.bind_eq_some_iff.mp H
 clear H
 obtain ⟨e1, D7_, H⟩ := H2
 have D7 := Aside0.mk D7_
 clear D7_
 have H2 := ite_some H
 clear H
 obtain ⟨⟨q1, q2⟩, H⟩ := H2
 dsimp only at q1 q2
 subst q1; subst q2
 have H2 := Option.bind_eq_some_iff.mp H
 clear H
 obtain ⟨⟨t2a, t2b⟩, D8_, H⟩ := H2
 have D8 := Aside0.mk D8_
 clear D8_
 have H2 := Option.bind_eq_some_iff.mp H
 clear H
 obtain ⟨e2, D9_, H⟩ := H2
 have D9 := Aside0.mk D9_
 clear D9_
 have H2 := ite_some H
 clear H
 obtain ⟨q1, H⟩ := H2
 subst q1
 have H2 := Option.bind_eq_some_iff.mp H
 clear H
 obtain ⟨u2, D10_, H⟩ := H2
 have D10 := Aside0.mk D10_
 clear D10_
 have H2 := Option.bind_eq_some_iff.mp H
 clear H
 obtain ⟨e3, D11_, H⟩ := H2
 have D11 := Aside0.mk D11_
 clear D11_
 have H2 := ite_some H
 clear H
 obtain ⟨q1, H⟩ := H2
 subst q1
 have H2 := Option.bind_eq_some_iff.mp H
 clear H
 obtain ⟨⟨p, pa, pb⟩, D12_, H⟩ := H2
 have D12 := Aside0.mk D12_
 clear D12_
 have H2 := Option.bind_eq_some_iff.mp H
 clear H
 obtain ⟨⟨p2, pc⟩, D13_, H⟩ := H2
 have D13 := Aside0.mk D13_
 clear D13_
 have H2 := ite_some H
 clear H
 obtain ⟨q1, H⟩ := H2
 have c4b0 : decide (p2 < 0) = false := decide_eq_false (by have := q1; dsimp only at this; omega)
 clear q1
 have H2 := Option.bind_eq_some_iff.mp H
 clear H
 obtain ⟨e4, D14_, H⟩ := H2
 have D14 := Aside0.mk D14_
 clear D14_
 have H2 := ite_some H
 clear H
 obtain ⟨q1, H⟩ := H2
 subst q1
 have H2 := Option.bind_eq_some_iff.mp H
 clear H
 obtain ⟨⟨m, ma, mb⟩, D15_, H⟩ := H2
 have D15 := Aside0.mk D15_
 clear D15_
 have H2 := Option.bind_eq_some_iff.mp H
 clear H
 obtain ⟨q, D16_, H⟩ := H2
 have D16 := Aside0.mk D16_
 clear D16_
 have H2 := ite_some H
 clear H
 obtain ⟨⟨q1, q2⟩, H⟩ := H2
 have c5b0 : decide (q < 0) = false := decide_eq_false (by omega)
 dsimp only at q2
 subst q2
 clear q1
 have H2 := Option.bind_eq_some_iff.mp H
 clear H
 obtain ⟨⟨t3a, t3b⟩, D17_, H⟩ := H2
 have D17 := Aside0.mk D17_
 clear D17_
 have H2 := Option.bind_eq_some_iff.mp H
 clear H
 obtain ⟨u3, D18_, H⟩ := H2
 have D18 := Aside0.mk D18_
 clear D18_
 have H2 := Option.bind_eq_some_iff.mp H
 clear H
 obtain ⟨⟨h1, h2, h3⟩, D19_, H⟩ := H2
 have D19 := Aside0.mk D19_
 clear D19_
 have H2 := Option.bind_eq_some_iff.mp H
 clear H
 obtain ⟨e5, D20_, H⟩ := H2
 have D20 := Aside0.mk D20_
 clear D20_
 have H2 := ite_some H
 clear H
 obtain ⟨⟨q1, q2⟩, H⟩ := H2
 dsimp only at q1 q2
 subst q1; subst q2
 have H2 := Option.bind_eq_some_iff.mp H
 clear H
 obtain ⟨q2, D21_, H⟩ := H2
 have D21 := Aside0.mk D21_
 clear D21_
 have H2 := ite_some H
 clear H
 obtain ⟨⟨q1, q3⟩, H⟩ := H2
 have c6b0 : decide (q2 < 0) = false := decide_eq_false (by omega)
 dsimp only at q3
 subst q3
 clear q1
 obtain rfl := Option.some.inj H
 clear H
 dsimp only at D3 D6 D7 D9 D12 D14 D15 D16 D19 D20 D21 D11 D13
 have v1b0 : (h3 == h3) = true := beq_self_eq_true _
 have v1b1 : (h3 != h3) = false := by simp
 have v1b2 : decide (h3 = h3) = true := decide_eq_true rfl
 have v2b0 : (q2 == q2) = true := beq_self_eq_true _
 have v2b1 : (q2 != q2) = false := by simp
 have v2b2 : decide (q2 = q2) = true := decide_eq_true rfl
 go_enter Try.func17, Try.ntmps17
 try go_wp2_with (first | ((with_reducible refine gate_dst (N := 3) rfl ?_); refine box_event ?hg (N := 3) ?hd (cs := #[.slice A0_0 l0.length c0_0, .slice A0_1 l1.length c0_1]) (t := 26) ?hr ?_; (case hd => rfl); (case hg => rfl); (case hr => first | (go_simp; done) | (go_simp; rfl)); intro gb3 hg_ W1 hbox hb; have hk_ : Kept w W1 (fun _ => False) := Kept.noth hb; have LEW1 := Aside0.mk (show w.heap.size ≤ W1.heap.size from hk_.1); have GE3 := Aside0.mk (show w.heap.size ≤ gb3 from Nat.le_trans HB.1.size (Nat.le_of_eq hg_.symm)); have GL3 := Aside0.mk (show w.heap.size ≤ gb3 from Nat.le_of_eq hg_.symm); have GH3 := Aside0.mk (show gb3 < W1.heap.size from blk_lt hbox); have n_ := Aside0.mk (below_step HB.1 hb); clear HB; have HB := n_; clear n_; have BK3 := Aside0.mk hbox; clear hb hbox hg_ hk_; (try clear hcz3_0 hcz3_1 hfz3_0 hfz3_1); have hcz3_0 : W1.cell? ⟨gb3, 0, none⟩ = some (.slice A0_0 l0.length c0_0) := (blk_cell BK3.1 0).trans rfl; have hcz3_1 : W1.cell? ⟨gb3, 1, none⟩ = some (.slice A0_1 l1.length c0_1) := (blk_cell BK3.1 1).trans rfl; have hfz3_0 := blk_frozen BK3.1 0; have hfz3_1 := blk_frozen BK3.1 1) | ((with_reducible refine gate_callee (f := 21) rfl ?_); refine goesL_ (some 24) rfl rfl Try.func21 (by kernel_rfl) rfl #[.agg #[.slice A0_0 l0.length c0_0, .slice A0_1 l1.length c0_1], .int .i64 1048576] rfl (pY36) ?_; (refine (laws_szShareBook.calls k _ _ l0 _ _ l1 1048576 z _ (Kd.C_below HR0_0.1 HB.1) HC0_0.1 (Kd.C_below HR0_1.1 HB.1) HC0_1.1 A1.out).mono ?_); rintro e_ W2 ⟨rfl, hb⟩; refine ⟨_, rfl, ?_⟩; have HB0 := Aside0.mk (show w.heap.size ≤ W1.heap.size from HB.1.size); have hk_ : Kept W1 W2 (fun _ => False) := Kept.noth hb; have LEW2 := Aside0.mk (show W1.heap.size ≤ W2.heap.size from hk_.1); have nb3_ := Aside0.mk (blk_kept BK3.1 hk_ (fun h => h)); clear BK3; have BK3 := nb3_; clear nb3_; have n_ := Aside0.mk (below_step (HB.1) hb); clear HB; have HB := n_; clear n_; (try clear hb); (try clear hk_); (try clear hkk); (try clear hbb); (try clear hcz3_0 hcz3_1 hfz3_0 hfz3_1); have hcz3_0 : W2.cell? ⟨gb3, 0, none⟩ = some (.slice A0_0 l0.length c0_0) := (blk_cell BK3.1 0).trans rfl; have hcz3_1 : W2.cell? ⟨gb3, 1, none⟩ = some (.slice A0_1 l1.length c0_1) := (blk_cell BK3.1 1).trans rfl; have hfz3_0 := blk_frozen BK3.1 0; have hfz3_1 := blk_frozen BK3.1 1; (try clear HB0)) | ((with_reducible refine gate_callee (f := 30) rfl ?_); refine goesL_ (some 29) rfl rfl Try.func30 (by kernel_rfl) rfl #[.slice A2 l2.length c2, .int .i64 z] rfl (pY36) ?_; (refine (laws_szStringS.calls k _ _ l2 z z2 _ (Kd.C_below HR2.1 HB.1) HC2.1 A2_.out).mono ?_); rintro e_ W3 ⟨rfl, hb⟩; refine ⟨_, rfl, ?_⟩; obtain ⟨nd_, hd_⟩ := hb; have hb : Below W2.heap.size W2 W3 := hd_ ▸ pw_below_drewN (Below.refl _ _) nd_; clear hd_ nd_; have HB0 := Aside0.mk (show w.heap.size ≤ W2.heap.size from HB.1.size); have hk_ : Kept W2 W3 (fun _ => False) := Kept.noth hb; have LEW3 := Aside0.mk (show W2.heap.size ≤ W3.heap.size from hk_.1); have nb3_ := Aside0.mk (blk_kept BK3.1 hk_ (fun h => h)); clear BK3; have BK3 := nb3_; clear nb3_; have n_ := Aside0.mk (below_step (HB.1) hb); clear HB; have HB := n_; clear n_; (try clear hb); (try clear hk_); (try clear hkk); (try clear hbb); (try clear hcz3_0 hcz3_1 hfz3_0 hfz3_1); have hcz3_0 : W3.cell? ⟨gb3, 0, none⟩ = some (.slice A0_0 l0.length c0_0) := (blk_cell BK3.1 0).trans rfl; have hcz3_1 : W3.cell? ⟨gb3, 1, none⟩ = some (.slice A0_1 l1.length c0_1) := (blk_cell BK3.1 1).trans rfl; have hfz3_0 := blk_frozen BK3.1 0; have hfz3_1 := blk_frozen BK3.1 1; (try clear HB0)) | ((with_reducible refine gate_callee (f := 23) rfl ?_); refine goesL_ (some 34) rfl rfl Try.func23 (by kernel_rfl) rfl #[.agg #[.slice A0_0 l0.length c0_0, .slice A0_1 l1.length c0_1]] rfl (pY36) ?_; (refine (laws_toShareBook.calls k _ _ l0 _ _ l1 t1a t1b _ (Kd.C_below HR0_0.1 HB.1) HC0_0.1 (Kd.C_below HR0_1.1 HB.1) HC0_1.1 D1.1).mono ?_); rintro e_ W4 ⟨_, _, rfl, ho0, ho1, hb⟩; refine ⟨_, rfl, ?_⟩; have HB0 := Aside0.mk (show w.heap.size ≤ W3.heap.size from HB.1.size); have hk_ : Kept W3 W4 (fun _ => False) := Kept.noth hb; have LEW4 := Aside0.mk (show W3.heap.size ≤ W4.heap.size from hk_.1); have nb3_ := Aside0.mk (blk_kept BK3.1 hk_ (fun h => h)); clear BK3; have BK3 := nb3_; clear nb3_; have n_ := Aside0.mk (below_step (HB.1) hb); clear HB; have HB := n_; clear n_; have n_ := Aside0.mk (BkS.made (n := W3.heap.size) ho0 ho1 (HB0.out) (Nat.le_refl _)); have KT := n_; clear n_ ho0 ho1; obtain ⟨At0, ct0, At1, ct1, e0_, e1_⟩ := KT.out.slices; subst e0_; subst e1_; (try clear hb); (try clear hk_); (try clear hkk); (try clear hbb); (try clear hcz3_0 hcz3_1 hfz3_0 hfz3_1); have hcz3_0 : W4.cell? ⟨gb3, 0, none⟩ = some (.slice A0_0 l0.length c0_0) := (blk_cell BK3.1 0).trans rfl; have hcz3_1 : W4.cell? ⟨gb3, 1, none⟩ = some (.slice A0_1 l1.length c0_1) := (blk_cell BK3.1 1).trans rfl; have hfz3_0 := blk_frozen BK3.1 0; have hfz3_1 := blk_frozen BK3.1 1; (try clear HB0)) | ((with_reducible refine gate_callee (f := 32) rfl ?_); refine goesL_ (some 37) rfl rfl Try.func32 (by kernel_rfl) rfl #[.slice A2 l2.length c2] rfl (pY36) ?_; (refine (laws_toStringS.calls k _ _ l2 u1 _ (Kd.C_below HR2.1 HB.1) HC2.1 D2.1).mono ?_); rintro e_ W5 ⟨_, rfl, ho0, hb⟩; refine ⟨_, rfl, ?_⟩; have HB0 := Aside0.mk (show w.heap.size ≤ W4.heap.size from HB.1.size); have hk_ : Kept W4 W5 (fun _ => False) := Kept.noth hb; have LEW5 := Aside0.mk (show W4.heap.size ≤ W5.heap.size from hk_.1); have n0_ := Aside0.mk (BkS.kept KT.out hk_ (fun _ _ _ h => h)); have nb3_ := Aside0.mk (blk_kept BK3.1 hk_ (fun h => h)); clear KT BK3; have KT := n0_; have BK3 := nb3_; clear n0_ nb3_; have n_ := Aside0.mk (below_step (HB.1) hb); clear HB; have HB := n_; clear n_; have n_ := Aside0.mk (RwS.made (n := W4.heap.size) ho0 (HB0.out) (Nat.le_refl _)); have KU := n_; clear n_ ho0; obtain ⟨Au0, cu0, e0_⟩ := KU.out.slices; subst e0_; (try clear hb); (try clear hk_); (try clear hkk); (try clear hbb); (try clear hcz3_0 hcz3_1 hfz3_0 hfz3_1); have hcz3_0 : W5.cell? ⟨gb3, 0, none⟩ = some (.slice A0_0 l0.length c0_0) := (blk_cell BK3.1 0).trans rfl; have hcz3_1 : W5.cell? ⟨gb3, 1, none⟩ = some (.slice A0_1 l1.length c0_1) := (blk_cell BK3.1 1).trans rfl; have hfz3_0 := blk_frozen BK3.1 0; have hfz3_1 := blk_frozen BK3.1 1; (try clear HB0)) | ((with_reducible refine gate_callee (f := 59) rfl ?_); refine goesL_ (some 38) rfl rfl Try.func59 (by kernel_rfl) rfl #[.agg #[.slice At0 t1a.length ct0, .slice At1 t1b.length ct1], .string a1, .slice Au0 u1.length cu0] rfl (pY36) ?_; (refine (spec_ShareEnter.calls k _ _ t1a _ _ t1b a1 _ _ u1 w1 w2 h3 _ (Kd.R_reads' (KT.out).1).2.2 (Kd.R_reads' (KT.out).1).2.1 (Kd.S_reads' (KT.out).2).2.2 (Kd.S_reads' (KT.out).2).2.1 (Kd.R_reads' (KU.out)).2.2 (Kd.R_reads' (KU.out)).2.1 D3.1).mono ?_); rintro e_ W6 ⟨_, _, rfl, ho0, ho1, hb⟩; refine ⟨_, rfl, ?_⟩; have HB0 := Aside0.mk (show w.heap.size ≤ W5.heap.size from HB.1.size); have hk_ : Kept W5 W6 (fun _ => False) := Kept.noth hb; have LEW6 := Aside0.mk (show W5.heap.size ≤ W6.heap.size from hk_.1); have nb3_ := Aside0.mk (blk_kept BK3.1 hk_ (fun h => h)); clear BK3 KT KU; have BK3 := nb3_; clear nb3_; have n_ := Aside0.mk (below_step (HB.1) hb); clear HB; have HB := n_; clear n_; have n_ := Aside0.mk (BkN.made (n := W5.heap.size) ho0 ho1 (HB0.out) (Nat.le_refl _)); have KW := n_; clear n_ ho0 ho1; obtain ⟨Aw0, cw0, Aw1, cw1, e0_, e1_⟩ := KW.out.slices; subst e0_; subst e1_; (try clear hb); (try clear hk_); (try clear hkk); (try clear hbb); (try clear hcz3_0 hcz3_1 hfz3_0 hfz3_1); have hcz3_0 : W6.cell? ⟨gb3, 0, none⟩ = some (.slice A0_0 l0.length c0_0) := (blk_cell BK3.1 0).trans rfl; have hcz3_1 : W6.cell? ⟨gb3, 1, none⟩ = some (.slice A0_1 l1.length c0_1) := (blk_cell BK3.1 1).trans rfl; have hfz3_0 := blk_frozen BK3.1 0; have hfz3_1 := blk_frozen BK3.1 1; (try clear HB0)) | ((with_reducible refine gate_dst (N := 8) rfl ?_); refine box_event ?hg (N := 8) ?hd (cs := #[.slice none 0 0, .slice none 0 0]) (t := 31) ?hr ?_; (case hd => rfl); (case hg => rfl); (case hr => first | (go_simp; done) | (go_simp; rfl)); intro gb8 hg_ W7 hbox hb; have hk_ : Kept W6 W7 (fun _ => False) := Kept.noth hb; have LEW7 := Aside0.mk (show W6.heap.size ≤ W7.heap.size from hk_.1); have GE8 := Aside0.mk (show w.heap.size ≤ gb8 from Nat.le_trans HB.1.size (Nat.le_of_eq hg_.symm)); have GL8 := Aside0.mk (show W6.heap.size ≤ gb8 from Nat.le_of_eq hg_.symm); have GH8 := Aside0.mk (show gb8 < W7.heap.size from blk_lt hbox); have n0_ := Aside0.mk (BkN.kept KW.out hk_ (fun _ _ _ h => h)); have nb3_ := Aside0.mk (blk_kept BK3.1 hk_ (fun h => h)); clear KW BK3; have KW := n0_; have BK3 := nb3_; clear n0_ nb3_; have n_ := Aside0.mk (below_step HB.1 hb); clear HB; have HB := n_; clear n_; have BK8 := Aside0.mk hbox; clear hb hbox hg_ hk_; have nb8_3 : gb8 ≠ gb3 := (by have := LEW1.1; have := GL3.1; have := GH3.1; have := LEW2.1; have := LEW3.1; have := LEW4.1; have := LEW5.1; have := LEW6.1; have := LEW7.1; have := GL8.1; have := GH8.1;  omega); have nb3_8 : gb3 ≠ gb8 := (by have := LEW1.1; have := GL3.1; have := GH3.1; have := LEW2.1; have := LEW3.1; have := LEW4.1; have := LEW5.1; have := LEW6.1; have := LEW7.1; have := GL8.1; have := GH8.1;  omega); (try clear hcz8_0 hcz8_1 hfz8_0 hfz8_1); have hcz8_0 : W7.cell? ⟨gb8, 0, none⟩ = some (.slice none 0 0) := (blk_cell BK8.1 0).trans rfl; have hcz8_1 : W7.cell? ⟨gb8, 1, none⟩ = some (.slice none 0 0) := (blk_cell BK8.1 1).trans rfl; have hfz8_0 := blk_frozen BK8.1 0; have hfz8_1 := blk_frozen BK8.1 1; (try clear hcz3_0 hcz3_1 hfz3_0 hfz3_1); have hcz3_0 : W7.cell? ⟨gb3, 0, none⟩ = some (.slice A0_0 l0.length c0_0) := (blk_cell BK3.1 0).trans rfl; have hcz3_1 : W7.cell? ⟨gb3, 1, none⟩ = some (.slice A0_1 l1.length c0_1) := (blk_cell BK3.1 1).trans rfl; have hfz3_0 := blk_frozen BK3.1 0; have hfz3_1 := blk_frozen BK3.1 1) | ((with_reducible refine gate_callee (f := 23) rfl ?_); refine goesL_ (some 42) rfl rfl Try.func23 (by kernel_rfl) rfl #[.agg #[.slice A0_0 l0.length c0_0, .slice A0_1 l1.length c0_1]] rfl (pY36) ?_; (refine (laws_toShareBook.calls k _ _ l0 _ _ l1 x1 xb _ (Kd.C_below HR0_0.1 (below_set (below_set HB.1 GE8.1) GE8.1)) HC0_0.1 (Kd.C_below HR0_1.1 (below_set (below_set HB.1 GE8.1) GE8.1)) HC0_1.1 D4.1).mono ?_); rintro e_ W8 ⟨_, _, rfl, ho0, ho1, hb⟩; refine ⟨_, rfl, ?_⟩; have HB0 := Aside0.mk (show w.heap.size ≤ W7.heap.size from HB.1.size); have hk_ : Kept W7 W8 (fun k => k = gb8) := (Kept.two (w := W7) (g := gb8) 0 1 (.slice Aw0 w1.length cw0) (.slice Aw1 w2.length cw1)).below hb; have LEW8 := Aside0.mk (show W7.heap.size ≤ W8.heap.size from hk_.1); have n0_ := Aside0.mk (BkN.kept KW.out hk_ (fun k_ h1_ h2_ e_ => by have := LEW1.1; have := GL3.1; have := GH3.1; have := LEW2.1; have := LEW3.1; have := LEW4.1; have := LEW5.1; have := LEW6.1; have := LEW7.1; have := GL8.1; have := GH8.1;  omega)); have nb3_ := Aside0.mk (blk_kept BK3.1 hk_ (fun e_ => by have := LEW1.1; have := GL3.1; have := GH3.1; have := LEW2.1; have := LEW3.1; have := LEW4.1; have := LEW5.1; have := LEW6.1; have := LEW7.1; have := GL8.1; have := GH8.1;  omega)); clear KW BK3; have KW := n0_; have BK3 := nb3_; clear n0_ nb3_; have nb_ := Aside0.mk (blk_below (g := gb8) (o := .cells #[.slice Aw0 w1.length cw0, .slice Aw1 w2.length cw1] 31 (0, 0)) (blk_put (cs := #[.slice Aw0 w1.length cw0, .slice none 0 0]) (blk_put (cs := #[.slice none 0 0, .slice none 0 0]) BK8.1 0 _ rfl) 1 _ rfl) hb); clear BK8; have BK8 := nb_; clear nb_; have n_ := Aside0.mk (below_step (below_set (below_set HB.1 GE8.1) GE8.1) hb); clear HB; have HB := n_; clear n_; have n_ := Aside0.mk (BkS.made (n := W7.heap.size) ho0 ho1 (HB0.out) (Nat.le_of_eq (by simp [World.setCell]))); have KX := n_; clear n_ ho0 ho1; obtain ⟨Ax0, cx0, Ax1, cx1, e0_, e1_⟩ := KX.out.slices; subst e0_; subst e1_; (try clear hb); (try clear hk_); (try clear hkk); (try clear hbb); (try clear hcz3_0 hcz3_1 hfz3_0 hfz3_1); have hcz3_0 : W8.cell? ⟨gb3, 0, none⟩ = some (.slice A0_0 l0.length c0_0) := (blk_cell BK3.1 0).trans rfl; have hcz3_1 : W8.cell? ⟨gb3, 1, none⟩ = some (.slice A0_1 l1.length c0_1) := (blk_cell BK3.1 1).trans rfl; have hfz3_0 := blk_frozen BK3.1 0; have hfz3_1 := blk_frozen BK3.1 1; (try clear HB0)) | ((with_reducible refine gate_dst (N := 10) rfl ?_); refine box_event ?hg (N := 10) ?hd (cs := #[.slice none 0 0, .slice none 0 0]) (t := 31) ?hr ?_; (case hd => rfl); (case hg => rfl); (case hr => first | (go_simp; done) | (go_simp; rfl)); intro gb10 hg_ W9 hbox hb; have hk_ : Kept W8 W9 (fun _ => False) := Kept.noth hb; have LEW9 := Aside0.mk (show W8.heap.size ≤ W9.heap.size from hk_.1); have GE10 := Aside0.mk (show w.heap.size ≤ gb10 from Nat.le_trans HB.1.size (Nat.le_of_eq hg_.symm)); have GL10 := Aside0.mk (show W8.heap.size ≤ gb10 from Nat.le_of_eq hg_.symm); have GH10 := Aside0.mk (show gb10 < W9.heap.size from blk_lt hbox); have n0_ := Aside0.mk (BkN.kept KW.out hk_ (fun _ _ _ h => h)); have n1_ := Aside0.mk (BkS.kept KX.out hk_ (fun _ _ _ h => h)); have nb3_ := Aside0.mk (blk_kept BK3.1 hk_ (fun h => h)); have nb8_ := Aside0.mk (blk_kept BK8.1 hk_ (fun h => h)); clear KW KX BK3 BK8; have KW := n0_; have KX := n1_; have BK3 := nb3_; have BK8 := nb8_; clear n0_ n1_ nb3_ nb8_; have n_ := Aside0.mk (below_step HB.1 hb); clear HB; have HB := n_; clear n_; have BK10 := Aside0.mk hbox; clear hb hbox hg_ hk_; have nb10_3 : gb10 ≠ gb3 := (by have := LEW1.1; have := GL3.1; have := GH3.1; have := LEW2.1; have := LEW3.1; have := LEW4.1; have := LEW5.1; have := LEW6.1; have := LEW7.1; have := GL8.1; have := GH8.1; have := LEW8.1; have := LEW9.1; have := GL10.1; have := GH10.1;  omega); have nb3_10 : gb3 ≠ gb10 := (by have := LEW1.1; have := GL3.1; have := GH3.1; have := LEW2.1; have := LEW3.1; have := LEW4.1; have := LEW5.1; have := LEW6.1; have := LEW7.1; have := GL8.1; have := GH8.1; have := LEW8.1; have := LEW9.1; have := GL10.1; have := GH10.1;  omega); have nb10_8 : gb10 ≠ gb8 := (by have := LEW1.1; have := GL3.1; have := GH3.1; have := LEW2.1; have := LEW3.1; have := LEW4.1; have := LEW5.1; have := LEW6.1; have := LEW7.1; have := GL8.1; have := GH8.1; have := LEW8.1; have := LEW9.1; have := GL10.1; have := GH10.1;  omega); have nb8_10 : gb8 ≠ gb10 := (by have := LEW1.1; have := GL3.1; have := GH3.1; have := LEW2.1; have := LEW3.1; have := LEW4.1; have := LEW5.1; have := LEW6.1; have := LEW7.1; have := GL8.1; have := GH8.1; have := LEW8.1; have := LEW9.1; have := GL10.1; have := GH10.1;  omega); (try clear hcz10_0 hcz10_1 hfz10_0 hfz10_1); have hcz10_0 : W9.cell? ⟨gb10, 0, none⟩ = some (.slice none 0 0) := (blk_cell BK10.1 0).trans rfl; have hcz10_1 : W9.cell? ⟨gb10, 1, none⟩ = some (.slice none 0 0) := (blk_cell BK10.1 1).trans rfl; have hfz10_0 := blk_frozen BK10.1 0; have hfz10_1 := blk_frozen BK10.1 1; (try clear hcz3_0 hcz3_1 hfz3_0 hfz3_1); have hcz3_0 : W9.cell? ⟨gb3, 0, none⟩ = some (.slice A0_0 l0.length c0_0) := (blk_cell BK3.1 0).trans rfl; have hcz3_1 : W9.cell? ⟨gb3, 1, none⟩ = some (.slice A0_1 l1.length c0_1) := (blk_cell BK3.1 1).trans rfl; have hfz3_0 := blk_frozen BK3.1 0; have hfz3_1 := blk_frozen BK3.1 1) | ((with_reducible refine gate_callee (f := 32) rfl ?_); refine goesL_ (some 44) rfl rfl Try.func32 (by kernel_rfl) rfl #[.slice A2 l2.length c2] rfl (pY36) ?_; (refine (laws_toStringS.calls k _ _ l2 x2 _ (Kd.C_below HR2.1 (below_set (below_set HB.1 GE10.1) GE10.1)) HC2.1 D5.1).mono ?_); rintro e_ W10 ⟨_, rfl, ho0, hb⟩; refine ⟨_, rfl, ?_⟩; have HB0 := Aside0.mk (show w.heap.size ≤ W9.heap.size from HB.1.size); have hk_ : Kept W9 W10 (fun k => k = gb10) := (Kept.two (w := W9) (g := gb10) 0 1 (.slice Ax0 x1.length cx0) (.slice Ax1 xb.length cx1)).below hb; have LEW10 := Aside0.mk (show W9.heap.size ≤ W10.heap.size from hk_.1); have n0_ := Aside0.mk (BkN.kept KW.out hk_ (fun k_ h1_ h2_ e_ => by have := LEW1.1; have := GL3.1; have := GH3.1; have := LEW2.1; have := LEW3.1; have := LEW4.1; have := LEW5.1; have := LEW6.1; have := LEW7.1; have := GL8.1; have := GH8.1; have := LEW8.1; have := LEW9.1; have := GL10.1; have := GH10.1;  omega)); have n1_ := Aside0.mk (BkS.kept KX.out hk_ (fun k_ h1_ h2_ e_ => by have := LEW1.1; have := GL3.1; have := GH3.1; have := LEW2.1; have := LEW3.1; have := LEW4.1; have := LEW5.1; have := LEW6.1; have := LEW7.1; have := GL8.1; have := GH8.1; have := LEW8.1; have := LEW9.1; have := GL10.1; have := GH10.1;  omega)); have nb3_ := Aside0.mk (blk_kept BK3.1 hk_ (fun e_ => by have := LEW1.1; have := GL3.1; have := GH3.1; have := LEW2.1; have := LEW3.1; have := LEW4.1; have := LEW5.1; have := LEW6.1; have := LEW7.1; have := GL8.1; have := GH8.1; have := LEW8.1; have := LEW9.1; have := GL10.1; have := GH10.1;  omega)); have nb8_ := Aside0.mk (blk_kept BK8.1 hk_ (fun e_ => by have := LEW1.1; have := GL3.1; have := GH3.1; have := LEW2.1; have := LEW3.1; have := LEW4.1; have := LEW5.1; have := LEW6.1; have := LEW7.1; have := GL8.1; have := GH8.1; have := LEW8.1; have := LEW9.1; have := GL10.1; have := GH10.1;  omega)); clear KW KX BK3 BK8; have KW := n0_; have KX := n1_; have BK3 := nb3_; have BK8 := nb8_; clear n0_ n1_ nb3_ nb8_; have nb_ := Aside0.mk (blk_below (g := gb10) (o := .cells #[.slice Ax0 x1.length cx0, .slice Ax1 xb.length cx1] 31 (0, 0)) (blk_put (cs := #[.slice Ax0 x1.length cx0, .slice none 0 0]) (blk_put (cs := #[.slice none 0 0, .slice none 0 0]) BK10.1 0 _ rfl) 1 _ rfl) hb); clear BK10; have BK10 := nb_; clear nb_; have n_ := Aside0.mk (below_step (below_set (below_set HB.1 GE10.1) GE10.1) hb); clear HB; have HB := n_; clear n_; have n_ := Aside0.mk (RwS.made (n := W9.heap.size) ho0 (HB0.out) (Nat.le_of_eq (by simp [World.setCell]))); have KY := n_; clear n_ ho0; obtain ⟨Ay0, cy0, e0_⟩ := KY.out.slices; subst e0_; (try clear hb); (try clear hk_); (try clear hkk); (try clear hbb); (try clear hcz10_0 hcz10_1 hfz10_0 hfz10_1); have hcz10_0 : W10.cell? ⟨gb10, 0, none⟩ = some (.slice Ax0 x1.length cx0) := (blk_cell BK10.1 0).trans rfl; have hcz10_1 : W10.cell? ⟨gb10, 1, none⟩ = some (.slice Ax1 xb.length cx1) := (blk_cell BK10.1 1).trans rfl; have hfz10_0 := blk_frozen BK10.1 0; have hfz10_1 := blk_frozen BK10.1 1; (try clear HB0)) | ((with_reducible refine gate_callee (f := 60) rfl ?_); refine goesL_ (some 49) rfl rfl Try.func60 (by kernel_rfl) rfl #[.agg #[.slice Ax0 x1.length cx0, .slice Ax1 xb.length cx1], .string a1, .slice Ay0 x2.length cy0] rfl (pY36) ?_; (refine (impl_ShareEnter.calls k _ _ x1 _ _ xb a1 _ _ x2 g1 g2 h3 _ (Kd.R_reads' (KX.out).1).2.2 (Kd.R_reads' (KX.out).1).2.1 (Kd.S_reads' (KX.out).2).2.2 (Kd.S_reads' (KX.out).2).2.1 (Kd.R_reads' (KY.out)).2.2 (Kd.R_reads' (KY.out)).2.1 D6.1).mono ?_); rintro e_ W11 ⟨_, _, rfl, ho0, ho1, hb⟩; refine ⟨_, rfl, ?_⟩; have HB0 := Aside0.mk (show w.heap.size ≤ W10.heap.size from HB.1.size); have hk_ : Kept W10 W11 (fun _ => False) := Kept.noth hb; have LEW11 := Aside0.mk (show W10.heap.size ≤ W11.heap.size from hk_.1); have n0_ := Aside0.mk (BkN.kept KW.out hk_ (fun _ _ _ h => h)); have n1_ := Aside0.mk (BkS.kept KX.out hk_ (fun _ _ _ h => h)); have n2_ := Aside0.mk (RwS.kept KY.out hk_ (fun _ _ _ h => h)); have nb3_ := Aside0.mk (blk_kept BK3.1 hk_ (fun h => h)); have nb8_ := Aside0.mk (blk_kept BK8.1 hk_ (fun h => h)); have nb10_ := Aside0.mk (blk_kept BK10.1 hk_ (fun h => h)); clear KW KX KY BK3 BK8 BK10; have KW := n0_; have KX := n1_; have KY := n2_; have BK3 := nb3_; have BK8 := nb8_; have BK10 := nb10_; clear n0_ n1_ n2_ nb3_ nb8_ nb10_; have n_ := Aside0.mk (below_step (HB.1) hb); clear HB; have HB := n_; clear n_; have n_ := Aside0.mk (BkS.made (n := W10.heap.size) ho0 ho1 (HB0.out) (Nat.le_refl _)); have KG := n_; clear n_ ho0 ho1; obtain ⟨Ag0, cg0, Ag1, cg1, e0_, e1_⟩ := KG.out.slices; subst e0_; subst e1_; (try clear hb); (try clear hk_); (try clear hkk); (try clear hbb); (try clear HB0)) | ((with_reducible refine gate_dst (N := 12) rfl ?_); refine box_event ?hg (N := 12) ?hd (cs := #[.slice none 0 0, .slice none 0 0]) (t := 31) ?hr ?_; (case hd => rfl); (case hg => rfl); (case hr => first | (go_simp; done) | (go_simp; rfl)); intro gb12 hg_ W12 hbox hb; have hk_ : Kept W11 W12 (fun _ => False) := Kept.noth hb; have LEW12 := Aside0.mk (show W11.heap.size ≤ W12.heap.size from hk_.1); have GE12 := Aside0.mk (show w.heap.size ≤ gb12 from Nat.le_trans HB.1.size (Nat.le_of_eq hg_.symm)); have GL12 := Aside0.mk (show W11.heap.size ≤ gb12 from Nat.le_of_eq hg_.symm); have GH12 := Aside0.mk (show gb12 < W12.heap.size from blk_lt hbox); have n0_ := Aside0.mk (BkN.kept KW.out hk_ (fun _ _ _ h => h)); have n1_ := Aside0.mk (BkS.kept KX.out hk_ (fun _ _ _ h => h)); have n2_ := Aside0.mk (RwS.kept KY.out hk_ (fun _ _ _ h => h)); have n3_ := Aside0.mk (BkS.kept KG.out hk_ (fun _ _ _ h => h)); have nb3_ := Aside0.mk (blk_kept BK3.1 hk_ (fun h => h)); have nb8_ := Aside0.mk (blk_kept BK8.1 hk_ (fun h => h)); have nb10_ := Aside0.mk (blk_kept BK10.1 hk_ (fun h => h)); clear KW KX KY KG BK3 BK8 BK10; have KW := n0_; have KX := n1_; have KY := n2_; have KG := n3_; have BK3 := nb3_; have BK8 := nb8_; have BK10 := nb10_; clear n0_ n1_ n2_ n3_ nb3_ nb8_ nb10_; have n_ := Aside0.mk (below_step HB.1 hb); clear HB; have HB := n_; clear n_; have BK12 := Aside0.mk hbox; clear hb hbox hg_ hk_; have nb12_3 : gb12 ≠ gb3 := (by have := LEW1.1; have := GL3.1; have := GH3.1; have := LEW2.1; have := LEW3.1; have := LEW4.1; have := LEW5.1; have := LEW6.1; have := LEW7.1; have := GL8.1; have := GH8.1; have := LEW8.1; have := LEW9.1; have := GL10.1; have := GH10.1; have := LEW10.1; have := LEW11.1; have := LEW12.1; have := GL12.1; have := GH12.1;  omega); have nb3_12 : gb3 ≠ gb12 := (by have := LEW1.1; have := GL3.1; have := GH3.1; have := LEW2.1; have := LEW3.1; have := LEW4.1; have := LEW5.1; have := LEW6.1; have := LEW7.1; have := GL8.1; have := GH8.1; have := LEW8.1; have := LEW9.1; have := GL10.1; have := GH10.1; have := LEW10.1; have := LEW11.1; have := LEW12.1; have := GL12.1; have := GH12.1;  omega); have nb12_8 : gb12 ≠ gb8 := (by have := LEW1.1; have := GL3.1; have := GH3.1; have := LEW2.1; have := LEW3.1; have := LEW4.1; have := LEW5.1; have := LEW6.1; have := LEW7.1; have := GL8.1; have := GH8.1; have := LEW8.1; have := LEW9.1; have := GL10.1; have := GH10.1; have := LEW10.1; have := LEW11.1; have := LEW12.1; have := GL12.1; have := GH12.1;  omega); have nb8_12 : gb8 ≠ gb12 := (by have := LEW1.1; have := GL3.1; have := GH3.1; have := LEW2.1; have := LEW3.1; have := LEW4.1; have := LEW5.1; have := LEW6.1; have := LEW7.1; have := GL8.1; have := GH8.1; have := LEW8.1; have := LEW9.1; have := GL10.1; have := GH10.1; have := LEW10.1; have := LEW11.1; have := LEW12.1; have := GL12.1; have := GH12.1;  omega); have nb12_10 : gb12 ≠ gb10 := (by have := LEW1.1; have := GL3.1; have := GH3.1; have := LEW2.1; have := LEW3.1; have := LEW4.1; have := LEW5.1; have := LEW6.1; have := LEW7.1; have := GL8.1; have := GH8.1; have := LEW8.1; have := LEW9.1; have := GL10.1; have := GH10.1; have := LEW10.1; have := LEW11.1; have := LEW12.1; have := GL12.1; have := GH12.1;  omega); have nb10_12 : gb10 ≠ gb12 := (by have := LEW1.1; have := GL3.1; have := GH3.1; have := LEW2.1; have := LEW3.1; have := LEW4.1; have := LEW5.1; have := LEW6.1; have := LEW7.1; have := GL8.1; have := GH8.1; have := LEW8.1; have := LEW9.1; have := GL10.1; have := GH10.1; have := LEW10.1; have := LEW11.1; have := LEW12.1; have := GL12.1; have := GH12.1;  omega); (try clear hcz12_0 hcz12_1 hfz12_0 hfz12_1); have hcz12_0 : W12.cell? ⟨gb12, 0, none⟩ = some (.slice none 0 0) := (blk_cell BK12.1 0).trans rfl; have hcz12_1 : W12.cell? ⟨gb12, 1, none⟩ = some (.slice none 0 0) := (blk_cell BK12.1 1).trans rfl; have hfz12_0 := blk_frozen BK12.1 0; have hfz12_1 := blk_frozen BK12.1 1; (try clear hcz8_0 hcz8_1 hfz8_0 hfz8_1); have hcz8_0 : W12.cell? ⟨gb8, 0, none⟩ = some (.slice Aw0 w1.length cw0) := (blk_cell BK8.1 0).trans rfl; have hcz8_1 : W12.cell? ⟨gb8, 1, none⟩ = some (.slice Aw1 w2.length cw1) := (blk_cell BK8.1 1).trans rfl; have hfz8_0 := blk_frozen BK8.1 0; have hfz8_1 := blk_frozen BK8.1 1) | ((with_reducible refine gate_callee (f := 25) rfl ?_); refine goesL_ (some 54) rfl rfl Try.func25 (by kernel_rfl) rfl #[.agg #[.slice Ag0 g1.length cg0, .slice Ag1 g2.length cg1], .agg #[.slice Aw0 w1.length cw0, .slice Aw1 w2.length cw1]] rfl (pY36) ?_; (refine (BkS.eqN (k := k) (r := true) (BkS.kept KG.out (Kept.two (w := W12) (g := gb12) 0 1 (.slice Ag0 g1.length cg0) (.slice Ag1 g2.length cg1)) (fun k_ h1_ h2_ e_ => by have := LEW1.1; have := GL3.1; have := GH3.1; have := LEW2.1; have := LEW3.1; have := LEW4.1; have := LEW5.1; have := LEW6.1; have := LEW7.1; have := GL8.1; have := GH8.1; have := LEW8.1; have := LEW9.1; have := GL10.1; have := GH10.1; have := LEW10.1; have := LEW11.1; have := LEW12.1; have := GL12.1; have := GH12.1;  omega)) (BkN.kept KW.out (Kept.two (w := W12) (g := gb12) 0 1 (.slice Ag0 g1.length cg0) (.slice Ag1 g2.length cg1)) (fun k_ h1_ h2_ e_ => by have := LEW1.1; have := GL3.1; have := GH3.1; have := LEW2.1; have := LEW3.1; have := LEW4.1; have := LEW5.1; have := LEW6.1; have := LEW7.1; have := GL8.1; have := GH8.1; have := LEW8.1; have := LEW9.1; have := GL10.1; have := GH10.1; have := LEW10.1; have := LEW11.1; have := LEW12.1; have := GL12.1; have := GH12.1;  omega)) D7.1).mono ?_); rintro e_ W13 ⟨rfl, hb⟩; refine ⟨_, rfl, ?_⟩; have HB0 := Aside0.mk (show w.heap.size ≤ W12.heap.size from HB.1.size); have hk_ : Kept W12 W13 (fun k => k = gb12) := (Kept.two (w := W12) (g := gb12) 0 1 (.slice Ag0 g1.length cg0) (.slice Ag1 g2.length cg1)).below hb; have LEW13 := Aside0.mk (show W12.heap.size ≤ W13.heap.size from hk_.1); have n0_ := Aside0.mk (BkN.kept KW.out hk_ (fun k_ h1_ h2_ e_ => by have := LEW1.1; have := GL3.1; have := GH3.1; have := LEW2.1; have := LEW3.1; have := LEW4.1; have := LEW5.1; have := LEW6.1; have := LEW7.1; have := GL8.1; have := GH8.1; have := LEW8.1; have := LEW9.1; have := GL10.1; have := GH10.1; have := LEW10.1; have := LEW11.1; have := LEW12.1; have := GL12.1; have := GH12.1;  omega)); have n1_ := Aside0.mk (BkS.kept KX.out hk_ (fun k_ h1_ h2_ e_ => by have := LEW1.1; have := GL3.1; have := GH3.1; have := LEW2.1; have := LEW3.1; have := LEW4.1; have := LEW5.1; have := LEW6.1; have := LEW7.1; have := GL8.1; have := GH8.1; have := LEW8.1; have := LEW9.1; have := GL10.1; have := GH10.1; have := LEW10.1; have := LEW11.1; have := LEW12.1; have := GL12.1; have := GH12.1;  omega)); have n2_ := Aside0.mk (RwS.kept KY.out hk_ (fun k_ h1_ h2_ e_ => by have := LEW1.1; have := GL3.1; have := GH3.1; have := LEW2.1; have := LEW3.1; have := LEW4.1; have := LEW5.1; have := LEW6.1; have := LEW7.1; have := GL8.1; have := GH8.1; have := LEW8.1; have := LEW9.1; have := GL10.1; have := GH10.1; have := LEW10.1; have := LEW11.1; have := LEW12.1; have := GL12.1; have := GH12.1;  omega)); have n3_ := Aside0.mk (BkS.kept KG.out hk_ (fun k_ h1_ h2_ e_ => by have := LEW1.1; have := GL3.1; have := GH3.1; have := LEW2.1; have := LEW3.1; have := LEW4.1; have := LEW5.1; have := LEW6.1; have := LEW7.1; have := GL8.1; have := GH8.1; have := LEW8.1; have := LEW9.1; have := GL10.1; have := GH10.1; have := LEW10.1; have := LEW11.1; have := LEW12.1; have := GL12.1; have := GH12.1;  omega)); have nb3_ := Aside0.mk (blk_kept BK3.1 hk_ (fun e_ => by have := LEW1.1; have := GL3.1; have := GH3.1; have := LEW2.1; have := LEW3.1; have := LEW4.1; have := LEW5.1; have := LEW6.1; have := LEW7.1; have := GL8.1; have := GH8.1; have := LEW8.1; have := LEW9.1; have := GL10.1; have := GH10.1; have := LEW10.1; have := LEW11.1; have := LEW12.1; have := GL12.1; have := GH12.1;  omega)); have nb8_ := Aside0.mk (blk_kept BK8.1 hk_ (fun e_ => by have := LEW1.1; have := GL3.1; have := GH3.1; have := LEW2.1; have := LEW3.1; have := LEW4.1; have := LEW5.1; have := LEW6.1; have := LEW7.1; have := GL8.1; have := GH8.1; have := LEW8.1; have := LEW9.1; have := GL10.1; have := GH10.1; have := LEW10.1; have := LEW11.1; have := LEW12.1; have := GL12.1; have := GH12.1;  omega)); have nb10_ := Aside0.mk (blk_kept BK10.1 hk_ (fun e_ => by have := LEW1.1; have := GL3.1; have := GH3.1; have := LEW2.1; have := LEW3.1; have := LEW4.1; have := LEW5.1; have := LEW6.1; have := LEW7.1; have := GL8.1; have := GH8.1; have := LEW8.1; have := LEW9.1; have := GL10.1; have := GH10.1; have := LEW10.1; have := LEW11.1; have := LEW12.1; have := GL12.1; have := GH12.1;  omega)); clear KW KX KY KG BK3 BK8 BK10; have KW := n0_; have KX := n1_; have KY := n2_; have KG := n3_; have BK3 := nb3_; have BK8 := nb8_; have BK10 := nb10_; clear n0_ n1_ n2_ n3_ nb3_ nb8_ nb10_; have nb_ := Aside0.mk (blk_below (g := gb12) (o := .cells #[.slice Ag0 g1.length cg0, .slice Ag1 g2.length cg1] 31 (0, 0)) (blk_put (cs := #[.slice Ag0 g1.length cg0, .slice none 0 0]) (blk_put (cs := #[.slice none 0 0, .slice none 0 0]) BK12.1 0 _ rfl) 1 _ rfl) hb); clear BK12; have BK12 := nb_; clear nb_; have n_ := Aside0.mk (below_step (below_set (below_set HB.1 GE12.1) GE12.1) hb); clear HB; have HB := n_; clear n_; (try clear hb); (try clear hk_); (try clear hkk); (try clear hbb); (try clear hcz3_0 hcz3_1 hfz3_0 hfz3_1); have hcz3_0 : W13.cell? ⟨gb3, 0, none⟩ = some (.slice A0_0 l0.length c0_0) := (blk_cell BK3.1 0).trans rfl; have hcz3_1 : W13.cell? ⟨gb3, 1, none⟩ = some (.slice A0_1 l1.length c0_1) := (blk_cell BK3.1 1).trans rfl; have hfz3_0 := blk_frozen BK3.1 0; have hfz3_1 := blk_frozen BK3.1 1; (try clear hcz10_0 hcz10_1 hfz10_0 hfz10_1); have hcz10_0 : W13.cell? ⟨gb10, 0, none⟩ = some (.slice Ax0 x1.length cx0) := (blk_cell BK10.1 0).trans rfl; have hcz10_1 : W13.cell? ⟨gb10, 1, none⟩ = some (.slice Ax1 xb.length cx1) := (blk_cell BK10.1 1).trans rfl; have hfz10_0 := blk_frozen BK10.1 0; have hfz10_1 := blk_frozen BK10.1 1; (try clear HB0)))
 have n0_ := Aside0.mk (BkN.kept KW.out (w' := W13.drew) (Kept.noth (below_drew1 (Below.refl _ _))) (fun _ _ _ h => h))
 have n1_ := Aside0.mk (BkS.kept KX.out (w' := W13.drew) (Kept.noth (below_drew1 (Below.refl _ _))) (fun _ _ _ h => h))
 have n2_ := Aside0.mk (RwS.kept KY.out (w' := W13.drew) (Kept.noth (below_drew1 (Below.refl _ _))) (fun _ _ _ h => h))
 have n3_ := Aside0.mk (BkS.kept KG.out (w' := W13.drew) (Kept.noth (below_drew1 (Below.refl _ _))) (fun _ _ _ h => h))
 have n4_ := Aside0.mk (blk_drew BK3.1)
 have n5_ := Aside0.mk (blk_drew BK8.1)
 have n6_ := Aside0.mk (blk_drew BK10.1)
 have n7_ := Aside0.mk (blk_drew BK12.1)
 have n8_ := Aside0.mk (below_drew1 HB.1)
 have nle_ := Aside0.mk (show W13.heap.size ≤ W13.drew.heap.size from Nat.le_refl _)
 clear KW KX KY KG BK3 BK8 BK10 BK12 HB
 have KW := n0_
 have KX := n1_
 have KY := n2_
 have KG := n3_
 have BK3 := n4_
 have BK8 := n5_
 have BK10 := n6_
 have BK12 := n7_
 have HB := n8_
 clear n0_ n1_ n2_ n3_ n4_ n5_ n6_ n7_ n8_
 refine start_ (n := 5) (S := fun w' => w'.cell? ⟨gb10, 0, none⟩ = some (.slice Ax0 x1.length cx0) ∧ w'.cell? ⟨gb10, 1, none⟩ = some (.slice Ax1 xb.length cx1) ∧ w'.cell? ⟨gb3, 0, none⟩ = some (.slice A0_0 l0.length c0_0) ∧ w'.cell? ⟨gb3, 1, none⟩ = some (.slice A0_1 l1.length c0_1)) (ds := []) #[false, false, false, false, false] (by kernel_rfl) rfl rfl ⟨(blk_cell BK10.1 0).trans rfl, (blk_cell BK10.1 1).trans rfl, (blk_cell BK3.1 0).trans rfl, (blk_cell BK3.1 1).trans rfl⟩ (fun hHeld => ?_)
 generalize W13.drew = W14 at KW KX KY KG BK3 BK8 BK10 BK12 HB nle_ hHeld ⊢
 have LEW14 := nle_
 clear nle_
 refine tK4_ (i := 0) (N := some 61) #[true, false, false, false, false] ?_
 refine tK4_ (i := 1) (N := some 62) #[true, true, false, false, false] ?_
 refine one_ (i := 2) (N := some 63) #[true, true, true, false, false] rfl rfl (by kernel_rfl) (by decide) (fun K hK => ?_)
 refine goes_ Try.func23 (by kernel_rfl) rfl #[.agg #[.slice A0_0 l0.length c0_0, .slice A0_1 l1.length c0_1]] (by rfl) rfl rfl (pY36) ?_
 (refine (laws_toShareBook.calls k _ _ l0 _ _ l1 t2a t2b _ (Kd.C_below HR0_0.1 HB.1) HC0_0.1 (Kd.C_below HR0_1.1 HB.1) HC0_1.1 D8.1).mono ?_)
 rintro e_ W15 ⟨_, _, rfl, ho0, ho1, hb⟩
 refine ⟨_, rfl, ?_⟩
 have HB0 := Aside0.mk (show w.heap.size ≤ W14.heap.size from HB.1.size)
 have hk_ : Kept W14 W15 (fun _ => False) := Kept.noth hb
 have LEW15 := Aside0.mk (show W14.heap.size ≤ W15.heap.size from hk_.1)
 have n0_ := Aside0.mk (BkN.kept KW.out hk_ (fun _ _ _ h => h))
 have n1_ := Aside0.mk (BkS.kept KX.out hk_ (fun _ _ _ h => h))
 have n2_ := Aside0.mk (RwS.kept KY.out hk_ (fun _ _ _ h => h))
 have n3_ := Aside0.mk (BkS.kept KG.out hk_ (fun _ _ _ h => h))
 have nb3_ := Aside0.mk (blk_kept BK3.1 hk_ (fun h => h))
 have nb8_ := Aside0.mk (blk_kept BK8.1 hk_ (fun h => h))
 have nb10_ := Aside0.mk (blk_kept BK10.1 hk_ (fun h => h))
 have nb12_ := Aside0.mk (blk_kept BK12.1 hk_ (fun h => h))
 clear KW KX KY KG BK3 BK8 BK10 BK12
 have KW := n0_
 have KX := n1_
 have KY := n2_
 have KG := n3_
 have BK3 := nb3_
 have BK8 := nb8_
 have BK10 := nb10_
 have BK12 := nb12_
 clear n0_ n1_ n2_ n3_ nb3_ nb8_ nb10_ nb12_
 have n_ := Aside0.mk (below_step (HB.1) hb)
 clear HB
 have HB := n_
 clear n_
 have n_ := Aside0.mk (BkS.made (n := W14.heap.size) ho0 ho1 (HB0.out) (Nat.le_refl _))
 have KV := n_
 clear n_ ho0 ho1
 obtain ⟨Av0, cv0, Av1, cv1, e0_, e1_⟩ := KV.out.slices
 subst e0_; subst e1_
 (try clear hb)
 (try clear hk_)
 (try clear hkk)
 (try clear hbb)
 (try clear HB0)
 refine hK.out _ _ ⟨(blk_cell BK10.1 0).trans rfl, (blk_cell BK10.1 1).trans rfl, (blk_cell BK3.1 0).trans rfl, (blk_cell BK3.1 1).trans rfl⟩ (fun hHeld => ?_)
 clear hK K
 refine norm_ (a' := ?_) ?_ ?_
 rotate_left
 ·show Act.put _ (some 63) _ = _
  simp only [pW]
  rfl
 refine one_ (i := 3) (N := some 64) #[true, true, true, true, false] rfl rfl (by kernel_rfl) (by decide) (fun K hK => ?_)
 refine goes_ Try.func25 (by kernel_rfl) rfl #[.agg #[.slice Ax0 x1.length cx0, .slice Ax1 xb.length cx1], .agg #[.slice Av0 t2a.length cv0, .slice Av1 t2b.length cv1]] (by rfl) rfl rfl (pY36) ?_
 (refine (BkS.eqS (k := k) (r := true) KX.out KV.out D9.1).mono ?_)
 rintro e_ W16 ⟨rfl, hb⟩
 refine ⟨_, rfl, ?_⟩
 have HB0 := Aside0.mk (show w.heap.size ≤ W15.heap.size from HB.1.size)
 have hk_ : Kept W15 W16 (fun _ => False) := Kept.noth hb
 have LEW16 := Aside0.mk (show W15.heap.size ≤ W16.heap.size from hk_.1)
 have n0_ := Aside0.mk (BkN.kept KW.out hk_ (fun _ _ _ h => h))
 have n1_ := Aside0.mk (BkS.kept KX.out hk_ (fun _ _ _ h => h))
 have n2_ := Aside0.mk (RwS.kept KY.out hk_ (fun _ _ _ h => h))
 have n3_ := Aside0.mk (BkS.kept KG.out hk_ (fun _ _ _ h => h))
 have nb3_ := Aside0.mk (blk_kept BK3.1 hk_ (fun h => h))
 have nb8_ := Aside0.mk (blk_kept BK8.1 hk_ (fun h => h))
 have nb10_ := Aside0.mk (blk_kept BK10.1 hk_ (fun h => h))
 have nb12_ := Aside0.mk (blk_kept BK12.1 hk_ (fun h => h))
 clear KW KX KY KG BK3 BK8 BK10 BK12 KV
 have KW := n0_
 have KX := n1_
 have KY := n2_
 have KG := n3_
 have BK3 := nb3_
 have BK8 := nb8_
 have BK10 := nb10_
 have BK12 := nb12_
 clear n0_ n1_ n2_ n3_ nb3_ nb8_ nb10_ nb12_
 have n_ := Aside0.mk (below_step (HB.1) hb)
 clear HB
 have HB := n_
 clear n_
 (try clear hb)
 (try clear hk_)
 (try clear hkk)
 (try clear hbb)
 (try clear HB0)
 refine hK.out _ _ ⟨(blk_cell BK10.1 0).trans rfl, (blk_cell BK10.1 1).trans rfl, (blk_cell BK3.1 0).trans rfl, (blk_cell BK3.1 1).trans rfl⟩ (fun hHeld => ?_)
 clear hK K
 refine norm_ (a' := ?_) ?_ ?_
 rotate_left
 ·show Act.put _ (some 64) _ = _
  simp only [pW]
  rfl
 refine pU0 (i := 4) (N := some 65) #[true, true, true, true, true] ?_
 refine done_ (by kernel_rfl) ?_
 (try clear hcz3_0 hcz3_1 hfz3_0 hfz3_1)
 have hcz3_0 : W16.cell? ⟨gb3, 0, none⟩ = some (.slice A0_0 l0.length c0_0) := (blk_cell BK3.1 0).trans rfl
 have hcz3_1 : W16.cell? ⟨gb3, 1, none⟩ = some (.slice A0_1 l1.length c0_1) := (blk_cell BK3.1 1).trans rfl
 have hfz3_0 := blk_frozen BK3.1 0
 have hfz3_1 := blk_frozen BK3.1 1
 (try clear hcz10_0 hcz10_1 hfz10_0 hfz10_1)
 have hcz10_0 : W16.cell? ⟨gb10, 0, none⟩ = some (.slice Ax0 x1.length cx0) := (blk_cell BK10.1 0).trans rfl
 have hcz10_1 : W16.cell? ⟨gb10, 1, none⟩ = some (.slice Ax1 xb.length cx1) := (blk_cell BK10.1 1).trans rfl
 have hfz10_0 := blk_frozen BK10.1 0
 have hfz10_1 := blk_frozen BK10.1 1
 go_wp2_with (first | ((with_reducible refine gate_callee (f := 32) rfl ?_); refine goesL_ (some 68) rfl rfl Try.func32 (by kernel_rfl) rfl #[.slice A2 l2.length c2] rfl (pY36) ?_; (refine (laws_toStringS.calls k _ _ l2 u2 _ (Kd.C_below HR2.1 HB.1) HC2.1 D10.1).mono ?_); rintro e_ W17 ⟨_, rfl, ho0, hb⟩; refine ⟨_, rfl, ?_⟩; have HB0 := Aside0.mk (show w.heap.size ≤ W16.heap.size from HB.1.size); have hk_ : Kept W16 W17 (fun _ => False) := Kept.noth hb; have LEW17 := Aside0.mk (show W16.heap.size ≤ W17.heap.size from hk_.1); have n0_ := Aside0.mk (BkN.kept KW.out hk_ (fun _ _ _ h => h)); have n1_ := Aside0.mk (BkS.kept KX.out hk_ (fun _ _ _ h => h)); have n2_ := Aside0.mk (RwS.kept KY.out hk_ (fun _ _ _ h => h)); have n3_ := Aside0.mk (BkS.kept KG.out hk_ (fun _ _ _ h => h)); have nb3_ := Aside0.mk (blk_kept BK3.1 hk_ (fun h => h)); have nb8_ := Aside0.mk (blk_kept BK8.1 hk_ (fun h => h)); have nb10_ := Aside0.mk (blk_kept BK10.1 hk_ (fun h => h)); have nb12_ := Aside0.mk (blk_kept BK12.1 hk_ (fun h => h)); clear KW KX KY KG BK3 BK8 BK10 BK12; have KW := n0_; have KX := n1_; have KY := n2_; have KG := n3_; have BK3 := nb3_; have BK8 := nb8_; have BK10 := nb10_; have BK12 := nb12_; clear n0_ n1_ n2_ n3_ nb3_ nb8_ nb10_ nb12_; have n_ := Aside0.mk (below_step (HB.1) hb); clear HB; have HB := n_; clear n_; have n_ := Aside0.mk (RwS.made (n := W16.heap.size) ho0 (HB0.out) (Nat.le_refl _)); have KU := n_; clear n_ ho0; obtain ⟨As0, cs0, e0_⟩ := KU.out.slices; subst e0_; (try clear hb); (try clear hk_); (try clear hkk); (try clear hbb); (try clear hcz10_0 hcz10_1 hfz10_0 hfz10_1); have hcz10_0 : W17.cell? ⟨gb10, 0, none⟩ = some (.slice Ax0 x1.length cx0) := (blk_cell BK10.1 0).trans rfl; have hcz10_1 : W17.cell? ⟨gb10, 1, none⟩ = some (.slice Ax1 xb.length cx1) := (blk_cell BK10.1 1).trans rfl; have hfz10_0 := blk_frozen BK10.1 0; have hfz10_1 := blk_frozen BK10.1 1; (try clear HB0)) | ((with_reducible refine gate_callee (f := 34) rfl ?_); refine goesL_ (some 69) rfl rfl Try.func34 (by kernel_rfl) rfl #[.slice Ay0 x2.length cy0, .slice As0 u2.length cs0] rfl (pY36) ?_; (refine (RwS.eq (k := k) (r := true) KY.out KU.out D11.1).mono ?_); rintro e_ W18 ⟨rfl, hb⟩; refine ⟨_, rfl, ?_⟩; have HB0 := Aside0.mk (show w.heap.size ≤ W17.heap.size from HB.1.size); have hk_ : Kept W17 W18 (fun _ => False) := Kept.noth hb; have LEW18 := Aside0.mk (show W17.heap.size ≤ W18.heap.size from hk_.1); have n0_ := Aside0.mk (BkN.kept KW.out hk_ (fun _ _ _ h => h)); have n1_ := Aside0.mk (BkS.kept KX.out hk_ (fun _ _ _ h => h)); have n2_ := Aside0.mk (RwS.kept KY.out hk_ (fun _ _ _ h => h)); have n3_ := Aside0.mk (BkS.kept KG.out hk_ (fun _ _ _ h => h)); have nb3_ := Aside0.mk (blk_kept BK3.1 hk_ (fun h => h)); have nb8_ := Aside0.mk (blk_kept BK8.1 hk_ (fun h => h)); have nb10_ := Aside0.mk (blk_kept BK10.1 hk_ (fun h => h)); have nb12_ := Aside0.mk (blk_kept BK12.1 hk_ (fun h => h)); clear KW KX KY KG BK3 BK8 BK10 BK12 KU; have KW := n0_; have KX := n1_; have KY := n2_; have KG := n3_; have BK3 := nb3_; have BK8 := nb8_; have BK10 := nb10_; have BK12 := nb12_; clear n0_ n1_ n2_ n3_ nb3_ nb8_ nb10_ nb12_; have n_ := Aside0.mk (below_step (HB.1) hb); clear HB; have HB := n_; clear n_; (try clear hb); (try clear hk_); (try clear hkk); (try clear hbb); (try clear hcz10_0 hcz10_1 hfz10_0 hfz10_1); have hcz10_0 : W18.cell? ⟨gb10, 0, none⟩ = some (.slice Ax0 x1.length cx0) := (blk_cell BK10.1 0).trans rfl; have hcz10_1 : W18.cell? ⟨gb10, 1, none⟩ = some (.slice Ax1 xb.length cx1) := (blk_cell BK10.1 1).trans rfl; have hfz10_0 := blk_frozen BK10.1 0; have hfz10_1 := blk_frozen BK10.1 1; (try clear HB0)) | ((with_reducible refine gate_callee (f := 39) rfl ?_); refine goesL_ (some 73) rfl rfl Try.func39 (by kernel_rfl) rfl #[.agg #[.slice Ax0 x1.length cx0, .slice Ax1 xb.length cx1], .int .i64 1] rfl (pY36) ?_; (refine (BkS.mark (k := k) (q := p) KX.out HB.1 D12.1).mono ?_); rintro e_ W19 ⟨rfl, hy, hbb, hkk⟩; refine ⟨_, rfl, ?_⟩; have HB0 := Aside0.mk (show w.heap.size ≤ W18.heap.size from HB.1.size); have hk_ := hkk; have LEW19 := Aside0.mk (show W18.heap.size ≤ W19.heap.size from hk_.1); have n0_ := Aside0.mk (BkN.kept KW.out hk_ (fun k_ h1_ h2_ e_ => by obtain ⟨e1_, e2_⟩ := e_; have := LEW1.1; have := GL3.1; have := GH3.1; have := LEW2.1; have := LEW3.1; have := LEW4.1; have := LEW5.1; have := LEW6.1; have := LEW7.1; have := GL8.1; have := GH8.1; have := LEW8.1; have := LEW9.1; have := GL10.1; have := GH10.1; have := LEW10.1; have := LEW11.1; have := LEW12.1; have := GL12.1; have := GH12.1; have := LEW13.1; have := LEW14.1; have := LEW15.1; have := LEW16.1; have := LEW17.1; have := LEW18.1;  omega)); have n2_ := Aside0.mk (RwS.kept KY.out hk_ (fun k_ h1_ h2_ e_ => by obtain ⟨e1_, e2_⟩ := e_; have := LEW1.1; have := GL3.1; have := GH3.1; have := LEW2.1; have := LEW3.1; have := LEW4.1; have := LEW5.1; have := LEW6.1; have := LEW7.1; have := GL8.1; have := GH8.1; have := LEW8.1; have := LEW9.1; have := GL10.1; have := GH10.1; have := LEW10.1; have := LEW11.1; have := LEW12.1; have := GL12.1; have := GH12.1; have := LEW13.1; have := LEW14.1; have := LEW15.1; have := LEW16.1; have := LEW17.1; have := LEW18.1;  omega)); have n3_ := Aside0.mk (BkS.kept KG.out hk_ (fun k_ h1_ h2_ e_ => by obtain ⟨e1_, e2_⟩ := e_; have := LEW1.1; have := GL3.1; have := GH3.1; have := LEW2.1; have := LEW3.1; have := LEW4.1; have := LEW5.1; have := LEW6.1; have := LEW7.1; have := GL8.1; have := GH8.1; have := LEW8.1; have := LEW9.1; have := GL10.1; have := GH10.1; have := LEW10.1; have := LEW11.1; have := LEW12.1; have := GL12.1; have := GH12.1; have := LEW13.1; have := LEW14.1; have := LEW15.1; have := LEW16.1; have := LEW17.1; have := LEW18.1;  omega)); have nb3_ := Aside0.mk (blk_kept BK3.1 hk_ (fun e_ => by obtain ⟨e1_, e2_⟩ := e_; have := LEW1.1; have := GL3.1; have := GH3.1; have := LEW2.1; have := LEW3.1; have := LEW4.1; have := LEW5.1; have := LEW6.1; have := LEW7.1; have := GL8.1; have := GH8.1; have := LEW8.1; have := LEW9.1; have := GL10.1; have := GH10.1; have := LEW10.1; have := LEW11.1; have := LEW12.1; have := GL12.1; have := GH12.1; have := LEW13.1; have := LEW14.1; have := LEW15.1; have := LEW16.1; have := LEW17.1; have := LEW18.1;  omega)); have nb8_ := Aside0.mk (blk_kept BK8.1 hk_ (fun e_ => by obtain ⟨e1_, e2_⟩ := e_; have := LEW1.1; have := GL3.1; have := GH3.1; have := LEW2.1; have := LEW3.1; have := LEW4.1; have := LEW5.1; have := LEW6.1; have := LEW7.1; have := GL8.1; have := GH8.1; have := LEW8.1; have := LEW9.1; have := GL10.1; have := GH10.1; have := LEW10.1; have := LEW11.1; have := LEW12.1; have := GL12.1; have := GH12.1; have := LEW13.1; have := LEW14.1; have := LEW15.1; have := LEW16.1; have := LEW17.1; have := LEW18.1;  omega)); have nb10_ := Aside0.mk (blk_kept BK10.1 hk_ (fun e_ => by obtain ⟨e1_, e2_⟩ := e_; have := LEW1.1; have := GL3.1; have := GH3.1; have := LEW2.1; have := LEW3.1; have := LEW4.1; have := LEW5.1; have := LEW6.1; have := LEW7.1; have := GL8.1; have := GH8.1; have := LEW8.1; have := LEW9.1; have := GL10.1; have := GH10.1; have := LEW10.1; have := LEW11.1; have := LEW12.1; have := GL12.1; have := GH12.1; have := LEW13.1; have := LEW14.1; have := LEW15.1; have := LEW16.1; have := LEW17.1; have := LEW18.1;  omega)); have nb12_ := Aside0.mk (blk_kept BK12.1 hk_ (fun e_ => by obtain ⟨e1_, e2_⟩ := e_; have := LEW1.1; have := GL3.1; have := GH3.1; have := LEW2.1; have := LEW3.1; have := LEW4.1; have := LEW5.1; have := LEW6.1; have := LEW7.1; have := GL8.1; have := GH8.1; have := LEW8.1; have := LEW9.1; have := GL10.1; have := GH10.1; have := LEW10.1; have := LEW11.1; have := LEW12.1; have := GL12.1; have := GH12.1; have := LEW13.1; have := LEW14.1; have := LEW15.1; have := LEW16.1; have := LEW17.1; have := LEW18.1;  omega)); clear KW KY KG BK3 BK8 BK10 BK12 KX; have KW := n0_; have KY := n2_; have KG := n3_; have BK3 := nb3_; have BK8 := nb8_; have BK10 := nb10_; have BK12 := nb12_; clear n0_ n2_ n3_ nb3_ nb8_ nb10_ nb12_; have n_ := Aside0.mk hbb; clear HB; have HB := n_; clear n_; have KX := Aside0.mk hy; clear hy; (try clear hb); (try clear hk_); (try clear hkk); (try clear hbb); (try clear hcz12_0 hcz12_1 hfz12_0 hfz12_1); have hcz12_0 : W19.cell? ⟨gb12, 0, none⟩ = some (.slice Ag0 g1.length cg0) := (blk_cell BK12.1 0).trans rfl; have hcz12_1 : W19.cell? ⟨gb12, 1, none⟩ = some (.slice Ag1 g2.length cg1) := (blk_cell BK12.1 1).trans rfl; have hfz12_0 := blk_frozen BK12.1 0; have hfz12_1 := blk_frozen BK12.1 1; (try clear hcz8_0 hcz8_1 hfz8_0 hfz8_1); have hcz8_0 : W19.cell? ⟨gb8, 0, none⟩ = some (.slice Aw0 w1.length cw0) := (blk_cell BK8.1 0).trans rfl; have hcz8_1 : W19.cell? ⟨gb8, 1, none⟩ = some (.slice Aw1 w2.length cw1) := (blk_cell BK8.1 1).trans rfl; have hfz8_0 := blk_frozen BK8.1 0; have hfz8_1 := blk_frozen BK8.1 1; (try clear HB0)) | ((with_reducible refine gate_callee (f := 40) rfl ?_); refine goesL_ (some 76) rfl rfl Try.func40 (by kernel_rfl) rfl #[.slice Ay0 x2.length cy0, .int .i64 p] rfl (pY36) ?_; (refine (RwS.mark (k := k) (q := p2) KY.out HB.1 D13.1).mono ?_); rintro e_ W20 ⟨rfl, hy, hbb, hkk⟩; refine ⟨_, rfl, ?_⟩; have HB0 := Aside0.mk (show w.heap.size ≤ W19.heap.size from HB.1.size); have hk_ := hkk; have LEW20 := Aside0.mk (show W19.heap.size ≤ W20.heap.size from hk_.1); have n0_ := Aside0.mk (BkN.kept KW.out hk_ (fun k_ h1_ h2_ e_ => by obtain ⟨e1_, e2_⟩ := e_; have := LEW1.1; have := GL3.1; have := GH3.1; have := LEW2.1; have := LEW3.1; have := LEW4.1; have := LEW5.1; have := LEW6.1; have := LEW7.1; have := GL8.1; have := GH8.1; have := LEW8.1; have := LEW9.1; have := GL10.1; have := GH10.1; have := LEW10.1; have := LEW11.1; have := LEW12.1; have := GL12.1; have := GH12.1; have := LEW13.1; have := LEW14.1; have := LEW15.1; have := LEW16.1; have := LEW17.1; have := LEW18.1; have := LEW19.1;  omega)); have n2_ := Aside0.mk (BkS.kept KG.out hk_ (fun k_ h1_ h2_ e_ => by obtain ⟨e1_, e2_⟩ := e_; have := LEW1.1; have := GL3.1; have := GH3.1; have := LEW2.1; have := LEW3.1; have := LEW4.1; have := LEW5.1; have := LEW6.1; have := LEW7.1; have := GL8.1; have := GH8.1; have := LEW8.1; have := LEW9.1; have := GL10.1; have := GH10.1; have := LEW10.1; have := LEW11.1; have := LEW12.1; have := GL12.1; have := GH12.1; have := LEW13.1; have := LEW14.1; have := LEW15.1; have := LEW16.1; have := LEW17.1; have := LEW18.1; have := LEW19.1;  omega)); have n3_ := Aside0.mk (BkS.kept KX.out hk_ (fun k_ h1_ h2_ e_ => by obtain ⟨e1_, e2_⟩ := e_; have := LEW1.1; have := GL3.1; have := GH3.1; have := LEW2.1; have := LEW3.1; have := LEW4.1; have := LEW5.1; have := LEW6.1; have := LEW7.1; have := GL8.1; have := GH8.1; have := LEW8.1; have := LEW9.1; have := GL10.1; have := GH10.1; have := LEW10.1; have := LEW11.1; have := LEW12.1; have := GL12.1; have := GH12.1; have := LEW13.1; have := LEW14.1; have := LEW15.1; have := LEW16.1; have := LEW17.1; have := LEW18.1; have := LEW19.1;  omega)); have nb3_ := Aside0.mk (blk_kept BK3.1 hk_ (fun e_ => by obtain ⟨e1_, e2_⟩ := e_; have := LEW1.1; have := GL3.1; have := GH3.1; have := LEW2.1; have := LEW3.1; have := LEW4.1; have := LEW5.1; have := LEW6.1; have := LEW7.1; have := GL8.1; have := GH8.1; have := LEW8.1; have := LEW9.1; have := GL10.1; have := GH10.1; have := LEW10.1; have := LEW11.1; have := LEW12.1; have := GL12.1; have := GH12.1; have := LEW13.1; have := LEW14.1; have := LEW15.1; have := LEW16.1; have := LEW17.1; have := LEW18.1; have := LEW19.1;  omega)); have nb8_ := Aside0.mk (blk_kept BK8.1 hk_ (fun e_ => by obtain ⟨e1_, e2_⟩ := e_; have := LEW1.1; have := GL3.1; have := GH3.1; have := LEW2.1; have := LEW3.1; have := LEW4.1; have := LEW5.1; have := LEW6.1; have := LEW7.1; have := GL8.1; have := GH8.1; have := LEW8.1; have := LEW9.1; have := GL10.1; have := GH10.1; have := LEW10.1; have := LEW11.1; have := LEW12.1; have := GL12.1; have := GH12.1; have := LEW13.1; have := LEW14.1; have := LEW15.1; have := LEW16.1; have := LEW17.1; have := LEW18.1; have := LEW19.1;  omega)); have nb10_ := Aside0.mk (blk_kept BK10.1 hk_ (fun e_ => by obtain ⟨e1_, e2_⟩ := e_; have := LEW1.1; have := GL3.1; have := GH3.1; have := LEW2.1; have := LEW3.1; have := LEW4.1; have := LEW5.1; have := LEW6.1; have := LEW7.1; have := GL8.1; have := GH8.1; have := LEW8.1; have := LEW9.1; have := GL10.1; have := GH10.1; have := LEW10.1; have := LEW11.1; have := LEW12.1; have := GL12.1; have := GH12.1; have := LEW13.1; have := LEW14.1; have := LEW15.1; have := LEW16.1; have := LEW17.1; have := LEW18.1; have := LEW19.1;  omega)); have nb12_ := Aside0.mk (blk_kept BK12.1 hk_ (fun e_ => by obtain ⟨e1_, e2_⟩ := e_; have := LEW1.1; have := GL3.1; have := GH3.1; have := LEW2.1; have := LEW3.1; have := LEW4.1; have := LEW5.1; have := LEW6.1; have := LEW7.1; have := GL8.1; have := GH8.1; have := LEW8.1; have := LEW9.1; have := GL10.1; have := GH10.1; have := LEW10.1; have := LEW11.1; have := LEW12.1; have := GL12.1; have := GH12.1; have := LEW13.1; have := LEW14.1; have := LEW15.1; have := LEW16.1; have := LEW17.1; have := LEW18.1; have := LEW19.1;  omega)); clear KW KG KX BK3 BK8 BK10 BK12 KY; have KW := n0_; have KG := n2_; have KX := n3_; have BK3 := nb3_; have BK8 := nb8_; have BK10 := nb10_; have BK12 := nb12_; clear n0_ n2_ n3_ nb3_ nb8_ nb10_ nb12_; have n_ := Aside0.mk hbb; clear HB; have HB := n_; clear n_; have KY := Aside0.mk hy; clear hy; (try clear hb); (try clear hk_); (try clear hkk); (try clear hbb); (try clear hcz12_0 hcz12_1 hfz12_0 hfz12_1); have hcz12_0 : W20.cell? ⟨gb12, 0, none⟩ = some (.slice Ag0 g1.length cg0) := (blk_cell BK12.1 0).trans rfl; have hcz12_1 : W20.cell? ⟨gb12, 1, none⟩ = some (.slice Ag1 g2.length cg1) := (blk_cell BK12.1 1).trans rfl; have hfz12_0 := blk_frozen BK12.1 0; have hfz12_1 := blk_frozen BK12.1 1; (try clear hcz8_0 hcz8_1 hfz8_0 hfz8_1); have hcz8_0 : W20.cell? ⟨gb8, 0, none⟩ = some (.slice Aw0 w1.length cw0) := (blk_cell BK8.1 0).trans rfl; have hcz8_1 : W20.cell? ⟨gb8, 1, none⟩ = some (.slice Aw1 w2.length cw1) := (blk_cell BK8.1 1).trans rfl; have hfz8_0 := blk_frozen BK8.1 0; have hfz8_1 := blk_frozen BK8.1 1; (try clear HB0)) | (go_at_call 25; (refine (BkS.eqN (k := k) (r := true) KG.out KW.out D14.1).mono ?_); rintro e_ W21 ⟨rfl, hb⟩; have HB0 := Aside0.mk (show w.heap.size ≤ W20.heap.size from HB.1.size); have hk_ : Kept W20 W21 (fun _ => False) := Kept.noth hb; have LEW21 := Aside0.mk (show W20.heap.size ≤ W21.heap.size from hk_.1); have n0_ := Aside0.mk (BkN.kept KW.out hk_ (fun _ _ _ h => h)); have n1_ := Aside0.mk (BkS.kept KG.out hk_ (fun _ _ _ h => h)); have n2_ := Aside0.mk (BkS.kept KX.out hk_ (fun _ _ _ h => h)); have n3_ := Aside0.mk (RwS.kept KY.out hk_ (fun _ _ _ h => h)); have nb3_ := Aside0.mk (blk_kept BK3.1 hk_ (fun h => h)); have nb8_ := Aside0.mk (blk_kept BK8.1 hk_ (fun h => h)); have nb10_ := Aside0.mk (blk_kept BK10.1 hk_ (fun h => h)); have nb12_ := Aside0.mk (blk_kept BK12.1 hk_ (fun h => h)); clear KW KG KX KY BK3 BK8 BK10 BK12; have KW := n0_; have KG := n1_; have KX := n2_; have KY := n3_; have BK3 := nb3_; have BK8 := nb8_; have BK10 := nb10_; have BK12 := nb12_; clear n0_ n1_ n2_ n3_ nb3_ nb8_ nb10_ nb12_; have n_ := Aside0.mk (below_step (HB.1) hb); clear HB; have HB := n_; clear n_; (try clear hb); (try clear hk_); (try clear hkk); (try clear hbb); (try clear hcz12_0 hcz12_1 hfz12_0 hfz12_1); have hcz12_0 : W21.cell? ⟨gb12, 0, none⟩ = some (.slice Ag0 g1.length cg0) := (blk_cell BK12.1 0).trans rfl; have hcz12_1 : W21.cell? ⟨gb12, 1, none⟩ = some (.slice Ag1 g2.length cg1) := (blk_cell BK12.1 1).trans rfl; have hfz12_0 := blk_frozen BK12.1 0; have hfz12_1 := blk_frozen BK12.1 1; (try clear HB0)) | ((with_reducible refine gate_callee (f := 39) rfl ?_); refine goesL_ (some 92) rfl rfl Try.func39 (by kernel_rfl) rfl #[.agg #[.slice Ag0 g1.length cg0, .slice Ag1 g2.length cg1], .int .i64 1] rfl (pY36) ?_; (refine (BkS.mark (k := k) (q := q2) KG.out HB.1 D15.1).mono ?_); rintro e_ W22 ⟨rfl, hy, hbb, hkk⟩; refine ⟨_, rfl, ?_⟩; have HB0 := Aside0.mk (show w.heap.size ≤ W21.heap.size from HB.1.size); have hk_ := hkk; have LEW22 := Aside0.mk (show W21.heap.size ≤ W22.heap.size from hk_.1); have n0_ := Aside0.mk (BkN.kept KW.out hk_ (fun k_ h1_ h2_ e_ => by obtain ⟨e1_, e2_⟩ := e_; have := LEW1.1; have := GL3.1; have := GH3.1; have := LEW2.1; have := LEW3.1; have := LEW4.1; have := LEW5.1; have := LEW6.1; have := LEW7.1; have := GL8.1; have := GH8.1; have := LEW8.1; have := LEW9.1; have := GL10.1; have := GH10.1; have := LEW10.1; have := LEW11.1; have := LEW12.1; have := GL12.1; have := GH12.1; have := LEW13.1; have := LEW14.1; have := LEW15.1; have := LEW16.1; have := LEW17.1; have := LEW18.1; have := LEW19.1; have := LEW20.1; have := LEW21.1;  omega)); have n2_ := Aside0.mk (BkS.kept KX.out hk_ (fun k_ h1_ h2_ e_ => by obtain ⟨e1_, e2_⟩ := e_; have := LEW1.1; have := GL3.1; have := GH3.1; have := LEW2.1; have := LEW3.1; have := LEW4.1; have := LEW5.1; have := LEW6.1; have := LEW7.1; have := GL8.1; have := GH8.1; have := LEW8.1; have := LEW9.1; have := GL10.1; have := GH10.1; have := LEW10.1; have := LEW11.1; have := LEW12.1; have := GL12.1; have := GH12.1; have := LEW13.1; have := LEW14.1; have := LEW15.1; have := LEW16.1; have := LEW17.1; have := LEW18.1; have := LEW19.1; have := LEW20.1; have := LEW21.1;  omega)); have n3_ := Aside0.mk (RwS.kept KY.out hk_ (fun k_ h1_ h2_ e_ => by obtain ⟨e1_, e2_⟩ := e_; have := LEW1.1; have := GL3.1; have := GH3.1; have := LEW2.1; have := LEW3.1; have := LEW4.1; have := LEW5.1; have := LEW6.1; have := LEW7.1; have := GL8.1; have := GH8.1; have := LEW8.1; have := LEW9.1; have := GL10.1; have := GH10.1; have := LEW10.1; have := LEW11.1; have := LEW12.1; have := GL12.1; have := GH12.1; have := LEW13.1; have := LEW14.1; have := LEW15.1; have := LEW16.1; have := LEW17.1; have := LEW18.1; have := LEW19.1; have := LEW20.1; have := LEW21.1;  omega)); have nb3_ := Aside0.mk (blk_kept BK3.1 hk_ (fun e_ => by obtain ⟨e1_, e2_⟩ := e_; have := LEW1.1; have := GL3.1; have := GH3.1; have := LEW2.1; have := LEW3.1; have := LEW4.1; have := LEW5.1; have := LEW6.1; have := LEW7.1; have := GL8.1; have := GH8.1; have := LEW8.1; have := LEW9.1; have := GL10.1; have := GH10.1; have := LEW10.1; have := LEW11.1; have := LEW12.1; have := GL12.1; have := GH12.1; have := LEW13.1; have := LEW14.1; have := LEW15.1; have := LEW16.1; have := LEW17.1; have := LEW18.1; have := LEW19.1; have := LEW20.1; have := LEW21.1;  omega)); have nb8_ := Aside0.mk (blk_kept BK8.1 hk_ (fun e_ => by obtain ⟨e1_, e2_⟩ := e_; have := LEW1.1; have := GL3.1; have := GH3.1; have := LEW2.1; have := LEW3.1; have := LEW4.1; have := LEW5.1; have := LEW6.1; have := LEW7.1; have := GL8.1; have := GH8.1; have := LEW8.1; have := LEW9.1; have := GL10.1; have := GH10.1; have := LEW10.1; have := LEW11.1; have := LEW12.1; have := GL12.1; have := GH12.1; have := LEW13.1; have := LEW14.1; have := LEW15.1; have := LEW16.1; have := LEW17.1; have := LEW18.1; have := LEW19.1; have := LEW20.1; have := LEW21.1;  omega)); have nb10_ := Aside0.mk (blk_kept BK10.1 hk_ (fun e_ => by obtain ⟨e1_, e2_⟩ := e_; have := LEW1.1; have := GL3.1; have := GH3.1; have := LEW2.1; have := LEW3.1; have := LEW4.1; have := LEW5.1; have := LEW6.1; have := LEW7.1; have := GL8.1; have := GH8.1; have := LEW8.1; have := LEW9.1; have := GL10.1; have := GH10.1; have := LEW10.1; have := LEW11.1; have := LEW12.1; have := GL12.1; have := GH12.1; have := LEW13.1; have := LEW14.1; have := LEW15.1; have := LEW16.1; have := LEW17.1; have := LEW18.1; have := LEW19.1; have := LEW20.1; have := LEW21.1;  omega)); have nb12_ := Aside0.mk (blk_kept BK12.1 hk_ (fun e_ => by obtain ⟨e1_, e2_⟩ := e_; have := LEW1.1; have := GL3.1; have := GH3.1; have := LEW2.1; have := LEW3.1; have := LEW4.1; have := LEW5.1; have := LEW6.1; have := LEW7.1; have := GL8.1; have := GH8.1; have := LEW8.1; have := LEW9.1; have := GL10.1; have := GH10.1; have := LEW10.1; have := LEW11.1; have := LEW12.1; have := GL12.1; have := GH12.1; have := LEW13.1; have := LEW14.1; have := LEW15.1; have := LEW16.1; have := LEW17.1; have := LEW18.1; have := LEW19.1; have := LEW20.1; have := LEW21.1;  omega)); clear KW KX KY BK3 BK8 BK10 BK12 KG; have KW := n0_; have KX := n2_; have KY := n3_; have BK3 := nb3_; have BK8 := nb8_; have BK10 := nb10_; have BK12 := nb12_; clear n0_ n2_ n3_ nb3_ nb8_ nb10_ nb12_; have n_ := Aside0.mk hbb; clear HB; have HB := n_; clear n_; have KG := Aside0.mk hy; clear hy; (try clear hb); (try clear hk_); (try clear hkk); (try clear hbb); (try clear hcz12_0 hcz12_1 hfz12_0 hfz12_1); have hcz12_0 : W22.cell? ⟨gb12, 0, none⟩ = some (.slice Ag0 g1.length cg0) := (blk_cell BK12.1 0).trans rfl; have hcz12_1 : W22.cell? ⟨gb12, 1, none⟩ = some (.slice Ag1 g2.length cg1) := (blk_cell BK12.1 1).trans rfl; have hfz12_0 := blk_frozen BK12.1 0; have hfz12_1 := blk_frozen BK12.1 1; (try clear HB0)) | ((with_reducible refine gate_callee (f := 48) rfl ?_); refine goesL_ (some 95) rfl rfl Try.func48 (by kernel_rfl) rfl #[.agg #[.slice Ag0 g1.length cg0, .slice Ag1 g2.length cg1], .int .i64 1] rfl (pY36) ?_; (refine (BkS.held (k := k) (q := q2) KG.out D16.1).mono ?_); rintro e_ W23 ⟨rfl, hb⟩; refine ⟨_, rfl, ?_⟩; have HB0 := Aside0.mk (show w.heap.size ≤ W22.heap.size from HB.1.size); have hk_ : Kept W22 W23 (fun _ => False) := Kept.noth hb; have LEW23 := Aside0.mk (show W22.heap.size ≤ W23.heap.size from hk_.1); have n0_ := Aside0.mk (BkN.kept KW.out hk_ (fun _ _ _ h => h)); have n1_ := Aside0.mk (BkS.kept KX.out hk_ (fun _ _ _ h => h)); have n2_ := Aside0.mk (RwS.kept KY.out hk_ (fun _ _ _ h => h)); have n3_ := Aside0.mk (BkS.kept KG.out hk_ (fun _ _ _ h => h)); have nb3_ := Aside0.mk (blk_kept BK3.1 hk_ (fun h => h)); have nb8_ := Aside0.mk (blk_kept BK8.1 hk_ (fun h => h)); have nb10_ := Aside0.mk (blk_kept BK10.1 hk_ (fun h => h)); have nb12_ := Aside0.mk (blk_kept BK12.1 hk_ (fun h => h)); clear KW KX KY KG BK3 BK8 BK10 BK12; have KW := n0_; have KX := n1_; have KY := n2_; have KG := n3_; have BK3 := nb3_; have BK8 := nb8_; have BK10 := nb10_; have BK12 := nb12_; clear n0_ n1_ n2_ n3_ nb3_ nb8_ nb10_ nb12_; have n_ := Aside0.mk (below_step (HB.1) hb); clear HB; have HB := n_; clear n_; (try clear hb); (try clear hk_); (try clear hkk); (try clear hbb); (try clear hcz3_0 hcz3_1 hfz3_0 hfz3_1); have hcz3_0 : W23.cell? ⟨gb3, 0, none⟩ = some (.slice A0_0 l0.length c0_0) := (blk_cell BK3.1 0).trans rfl; have hcz3_1 : W23.cell? ⟨gb3, 1, none⟩ = some (.slice A0_1 l1.length c0_1) := (blk_cell BK3.1 1).trans rfl; have hfz3_0 := blk_frozen BK3.1 0; have hfz3_1 := blk_frozen BK3.1 1; (try clear HB0)) | ((with_reducible refine gate_callee (f := 23) rfl ?_); refine goesL_ (some 103) rfl rfl Try.func23 (by kernel_rfl) rfl #[.agg #[.slice A0_0 l0.length c0_0, .slice A0_1 l1.length c0_1]] rfl (pY36) ?_; (refine (laws_toShareBook.calls k _ _ l0 _ _ l1 t3a t3b _ (Kd.C_below HR0_0.1 HB.1) HC0_0.1 (Kd.C_below HR0_1.1 HB.1) HC0_1.1 D17.1).mono ?_); rintro e_ W24 ⟨_, _, rfl, ho0, ho1, hb⟩; refine ⟨_, rfl, ?_⟩; have HB0 := Aside0.mk (show w.heap.size ≤ W23.heap.size from HB.1.size); have hk_ : Kept W23 W24 (fun _ => False) := Kept.noth hb; have LEW24 := Aside0.mk (show W23.heap.size ≤ W24.heap.size from hk_.1); have n0_ := Aside0.mk (BkN.kept KW.out hk_ (fun _ _ _ h => h)); have n1_ := Aside0.mk (BkS.kept KX.out hk_ (fun _ _ _ h => h)); have n2_ := Aside0.mk (RwS.kept KY.out hk_ (fun _ _ _ h => h)); have n3_ := Aside0.mk (BkS.kept KG.out hk_ (fun _ _ _ h => h)); have nb3_ := Aside0.mk (blk_kept BK3.1 hk_ (fun h => h)); have nb8_ := Aside0.mk (blk_kept BK8.1 hk_ (fun h => h)); have nb10_ := Aside0.mk (blk_kept BK10.1 hk_ (fun h => h)); have nb12_ := Aside0.mk (blk_kept BK12.1 hk_ (fun h => h)); clear KW KX KY KG BK3 BK8 BK10 BK12; have KW := n0_; have KX := n1_; have KY := n2_; have KG := n3_; have BK3 := nb3_; have BK8 := nb8_; have BK10 := nb10_; have BK12 := nb12_; clear n0_ n1_ n2_ n3_ nb3_ nb8_ nb10_ nb12_; have n_ := Aside0.mk (below_step (HB.1) hb); clear HB; have HB := n_; clear n_; have n_ := Aside0.mk (BkS.made (n := W23.heap.size) ho0 ho1 (HB0.out) (Nat.le_refl _)); have KT := n_; clear n_ ho0 ho1; obtain ⟨Ar0, cr0, Ar1, cr1, e0_, e1_⟩ := KT.out.slices; subst e0_; subst e1_; (try clear hb); (try clear hk_); (try clear hkk); (try clear hbb); (try clear hcz3_0 hcz3_1 hfz3_0 hfz3_1); have hcz3_0 : W24.cell? ⟨gb3, 0, none⟩ = some (.slice A0_0 l0.length c0_0) := (blk_cell BK3.1 0).trans rfl; have hcz3_1 : W24.cell? ⟨gb3, 1, none⟩ = some (.slice A0_1 l1.length c0_1) := (blk_cell BK3.1 1).trans rfl; have hfz3_0 := blk_frozen BK3.1 0; have hfz3_1 := blk_frozen BK3.1 1; (try clear HB0)) | ((with_reducible refine gate_callee (f := 32) rfl ?_); refine goesL_ (some 106) rfl rfl Try.func32 (by kernel_rfl) rfl #[.slice A2 l2.length c2] rfl (pY36) ?_; (refine (laws_toStringS.calls k _ _ l2 u3 _ (Kd.C_below HR2.1 HB.1) HC2.1 D18.1).mono ?_); rintro e_ W25 ⟨_, rfl, ho0, hb⟩; refine ⟨_, rfl, ?_⟩; have HB0 := Aside0.mk (show w.heap.size ≤ W24.heap.size from HB.1.size); have hk_ : Kept W24 W25 (fun _ => False) := Kept.noth hb; have LEW25 := Aside0.mk (show W24.heap.size ≤ W25.heap.size from hk_.1); have n0_ := Aside0.mk (BkN.kept KW.out hk_ (fun _ _ _ h => h)); have n1_ := Aside0.mk (BkS.kept KX.out hk_ (fun _ _ _ h => h)); have n2_ := Aside0.mk (RwS.kept KY.out hk_ (fun _ _ _ h => h)); have n3_ := Aside0.mk (BkS.kept KG.out hk_ (fun _ _ _ h => h)); have n4_ := Aside0.mk (BkS.kept KT.out hk_ (fun _ _ _ h => h)); have nb3_ := Aside0.mk (blk_kept BK3.1 hk_ (fun h => h)); have nb8_ := Aside0.mk (blk_kept BK8.1 hk_ (fun h => h)); have nb10_ := Aside0.mk (blk_kept BK10.1 hk_ (fun h => h)); have nb12_ := Aside0.mk (blk_kept BK12.1 hk_ (fun h => h)); clear KW KX KY KG KT BK3 BK8 BK10 BK12; have KW := n0_; have KX := n1_; have KY := n2_; have KG := n3_; have KT := n4_; have BK3 := nb3_; have BK8 := nb8_; have BK10 := nb10_; have BK12 := nb12_; clear n0_ n1_ n2_ n3_ n4_ nb3_ nb8_ nb10_ nb12_; have n_ := Aside0.mk (below_step (HB.1) hb); clear HB; have HB := n_; clear n_; have n_ := Aside0.mk (RwS.made (n := W24.heap.size) ho0 (HB0.out) (Nat.le_refl _)); have KU := n_; clear n_ ho0; obtain ⟨Ao0, co0, e0_⟩ := KU.out.slices; subst e0_; (try clear hb); (try clear hk_); (try clear hkk); (try clear hbb); (try clear hcz3_0 hcz3_1 hfz3_0 hfz3_1); have hcz3_0 : W25.cell? ⟨gb3, 0, none⟩ = some (.slice A0_0 l0.length c0_0) := (blk_cell BK3.1 0).trans rfl; have hcz3_1 : W25.cell? ⟨gb3, 1, none⟩ = some (.slice A0_1 l1.length c0_1) := (blk_cell BK3.1 1).trans rfl; have hfz3_0 := blk_frozen BK3.1 0; have hfz3_1 := blk_frozen BK3.1 1; (try clear HB0)) | ((with_reducible refine gate_callee (f := 60) rfl ?_); refine goesL_ (some 107) rfl rfl Try.func60 (by kernel_rfl) rfl #[.agg #[.slice Ar0 t3a.length cr0, .slice Ar1 t3b.length cr1], .string a1, .slice Ao0 u3.length co0] rfl (pY36) ?_; (refine (impl_ShareEnter.calls k _ _ t3a _ _ t3b a1 _ _ u3 h1 h2 h3 _ (Kd.R_reads' (KT.out).1).2.2 (Kd.R_reads' (KT.out).1).2.1 (Kd.S_reads' (KT.out).2).2.2 (Kd.S_reads' (KT.out).2).2.1 (Kd.R_reads' (KU.out)).2.2 (Kd.R_reads' (KU.out)).2.1 D19.1).mono ?_); rintro e_ W26 ⟨_, _, rfl, ho0, ho1, hb⟩; refine ⟨_, rfl, ?_⟩; have HB0 := Aside0.mk (show w.heap.size ≤ W25.heap.size from HB.1.size); have hk_ : Kept W25 W26 (fun _ => False) := Kept.noth hb; have LEW26 := Aside0.mk (show W25.heap.size ≤ W26.heap.size from hk_.1); have n0_ := Aside0.mk (BkN.kept KW.out hk_ (fun _ _ _ h => h)); have n1_ := Aside0.mk (BkS.kept KX.out hk_ (fun _ _ _ h => h)); have n2_ := Aside0.mk (RwS.kept KY.out hk_ (fun _ _ _ h => h)); have n3_ := Aside0.mk (BkS.kept KG.out hk_ (fun _ _ _ h => h)); have nb3_ := Aside0.mk (blk_kept BK3.1 hk_ (fun h => h)); have nb8_ := Aside0.mk (blk_kept BK8.1 hk_ (fun h => h)); have nb10_ := Aside0.mk (blk_kept BK10.1 hk_ (fun h => h)); have nb12_ := Aside0.mk (blk_kept BK12.1 hk_ (fun h => h)); clear KW KX KY KG BK3 BK8 BK10 BK12 KT KU; have KW := n0_; have KX := n1_; have KY := n2_; have KG := n3_; have BK3 := nb3_; have BK8 := nb8_; have BK10 := nb10_; have BK12 := nb12_; clear n0_ n1_ n2_ n3_ nb3_ nb8_ nb10_ nb12_; have n_ := Aside0.mk (below_step (HB.1) hb); clear HB; have HB := n_; clear n_; have n_ := Aside0.mk (BkS.made (n := W25.heap.size) ho0 ho1 (HB0.out) (Nat.le_refl _)); have KH := n_; clear n_ ho0 ho1; obtain ⟨Ah0, ch0, Ah1, ch1, e0_, e1_⟩ := KH.out.slices; subst e0_; subst e1_; (try clear hb); (try clear hk_); (try clear hkk); (try clear hbb); (try clear HB0)) | ((with_reducible refine gate_dst (N := 17) rfl ?_); refine box_event ?hg (N := 17) ?hd (cs := #[.slice none 0 0, .slice none 0 0]) (t := 31) ?hr ?_; (case hd => rfl); (case hg => rfl); (case hr => first | (go_simp; done) | (go_simp; rfl)); intro gb17 hg_ W27 hbox hb; have hk_ : Kept W26 W27 (fun _ => False) := Kept.noth hb; have LEW27 := Aside0.mk (show W26.heap.size ≤ W27.heap.size from hk_.1); have GE17 := Aside0.mk (show w.heap.size ≤ gb17 from Nat.le_trans HB.1.size (Nat.le_of_eq hg_.symm)); have GL17 := Aside0.mk (show W26.heap.size ≤ gb17 from Nat.le_of_eq hg_.symm); have GH17 := Aside0.mk (show gb17 < W27.heap.size from blk_lt hbox); have n0_ := Aside0.mk (BkN.kept KW.out hk_ (fun _ _ _ h => h)); have n1_ := Aside0.mk (BkS.kept KX.out hk_ (fun _ _ _ h => h)); have n2_ := Aside0.mk (RwS.kept KY.out hk_ (fun _ _ _ h => h)); have n3_ := Aside0.mk (BkS.kept KG.out hk_ (fun _ _ _ h => h)); have n4_ := Aside0.mk (BkS.kept KH.out hk_ (fun _ _ _ h => h)); have nb3_ := Aside0.mk (blk_kept BK3.1 hk_ (fun h => h)); have nb8_ := Aside0.mk (blk_kept BK8.1 hk_ (fun h => h)); have nb10_ := Aside0.mk (blk_kept BK10.1 hk_ (fun h => h)); have nb12_ := Aside0.mk (blk_kept BK12.1 hk_ (fun h => h)); clear KW KX KY KG KH BK3 BK8 BK10 BK12; have KW := n0_; have KX := n1_; have KY := n2_; have KG := n3_; have KH := n4_; have BK3 := nb3_; have BK8 := nb8_; have BK10 := nb10_; have BK12 := nb12_; clear n0_ n1_ n2_ n3_ n4_ nb3_ nb8_ nb10_ nb12_; have n_ := Aside0.mk (below_step HB.1 hb); clear HB; have HB := n_; clear n_; have BK17 := Aside0.mk hbox; clear hb hbox hg_ hk_; have nb17_3 : gb17 ≠ gb3 := (by have := LEW1.1; have := GL3.1; have := GH3.1; have := LEW2.1; have := LEW3.1; have := LEW4.1; have := LEW5.1; have := LEW6.1; have := LEW7.1; have := GL8.1; have := GH8.1; have := LEW8.1; have := LEW9.1; have := GL10.1; have := GH10.1; have := LEW10.1; have := LEW11.1; have := LEW12.1; have := GL12.1; have := GH12.1; have := LEW13.1; have := LEW14.1; have := LEW15.1; have := LEW16.1; have := LEW17.1; have := LEW18.1; have := LEW19.1; have := LEW20.1; have := LEW21.1; have := LEW22.1; have := LEW23.1; have := LEW24.1; have := LEW25.1; have := LEW26.1; have := LEW27.1; have := GL17.1; have := GH17.1;  omega); have nb3_17 : gb3 ≠ gb17 := (by have := LEW1.1; have := GL3.1; have := GH3.1; have := LEW2.1; have := LEW3.1; have := LEW4.1; have := LEW5.1; have := LEW6.1; have := LEW7.1; have := GL8.1; have := GH8.1; have := LEW8.1; have := LEW9.1; have := GL10.1; have := GH10.1; have := LEW10.1; have := LEW11.1; have := LEW12.1; have := GL12.1; have := GH12.1; have := LEW13.1; have := LEW14.1; have := LEW15.1; have := LEW16.1; have := LEW17.1; have := LEW18.1; have := LEW19.1; have := LEW20.1; have := LEW21.1; have := LEW22.1; have := LEW23.1; have := LEW24.1; have := LEW25.1; have := LEW26.1; have := LEW27.1; have := GL17.1; have := GH17.1;  omega); have nb17_8 : gb17 ≠ gb8 := (by have := LEW1.1; have := GL3.1; have := GH3.1; have := LEW2.1; have := LEW3.1; have := LEW4.1; have := LEW5.1; have := LEW6.1; have := LEW7.1; have := GL8.1; have := GH8.1; have := LEW8.1; have := LEW9.1; have := GL10.1; have := GH10.1; have := LEW10.1; have := LEW11.1; have := LEW12.1; have := GL12.1; have := GH12.1; have := LEW13.1; have := LEW14.1; have := LEW15.1; have := LEW16.1; have := LEW17.1; have := LEW18.1; have := LEW19.1; have := LEW20.1; have := LEW21.1; have := LEW22.1; have := LEW23.1; have := LEW24.1; have := LEW25.1; have := LEW26.1; have := LEW27.1; have := GL17.1; have := GH17.1;  omega); have nb8_17 : gb8 ≠ gb17 := (by have := LEW1.1; have := GL3.1; have := GH3.1; have := LEW2.1; have := LEW3.1; have := LEW4.1; have := LEW5.1; have := LEW6.1; have := LEW7.1; have := GL8.1; have := GH8.1; have := LEW8.1; have := LEW9.1; have := GL10.1; have := GH10.1; have := LEW10.1; have := LEW11.1; have := LEW12.1; have := GL12.1; have := GH12.1; have := LEW13.1; have := LEW14.1; have := LEW15.1; have := LEW16.1; have := LEW17.1; have := LEW18.1; have := LEW19.1; have := LEW20.1; have := LEW21.1; have := LEW22.1; have := LEW23.1; have := LEW24.1; have := LEW25.1; have := LEW26.1; have := LEW27.1; have := GL17.1; have := GH17.1;  omega); have nb17_10 : gb17 ≠ gb10 := (by have := LEW1.1; have := GL3.1; have := GH3.1; have := LEW2.1; have := LEW3.1; have := LEW4.1; have := LEW5.1; have := LEW6.1; have := LEW7.1; have := GL8.1; have := GH8.1; have := LEW8.1; have := LEW9.1; have := GL10.1; have := GH10.1; have := LEW10.1; have := LEW11.1; have := LEW12.1; have := GL12.1; have := GH12.1; have := LEW13.1; have := LEW14.1; have := LEW15.1; have := LEW16.1; have := LEW17.1; have := LEW18.1; have := LEW19.1; have := LEW20.1; have := LEW21.1; have := LEW22.1; have := LEW23.1; have := LEW24.1; have := LEW25.1; have := LEW26.1; have := LEW27.1; have := GL17.1; have := GH17.1;  omega); have nb10_17 : gb10 ≠ gb17 := (by have := LEW1.1; have := GL3.1; have := GH3.1; have := LEW2.1; have := LEW3.1; have := LEW4.1; have := LEW5.1; have := LEW6.1; have := LEW7.1; have := GL8.1; have := GH8.1; have := LEW8.1; have := LEW9.1; have := GL10.1; have := GH10.1; have := LEW10.1; have := LEW11.1; have := LEW12.1; have := GL12.1; have := GH12.1; have := LEW13.1; have := LEW14.1; have := LEW15.1; have := LEW16.1; have := LEW17.1; have := LEW18.1; have := LEW19.1; have := LEW20.1; have := LEW21.1; have := LEW22.1; have := LEW23.1; have := LEW24.1; have := LEW25.1; have := LEW26.1; have := LEW27.1; have := GL17.1; have := GH17.1;  omega); have nb17_12 : gb17 ≠ gb12 := (by have := LEW1.1; have := GL3.1; have := GH3.1; have := LEW2.1; have := LEW3.1; have := LEW4.1; have := LEW5.1; have := LEW6.1; have := LEW7.1; have := GL8.1; have := GH8.1; have := LEW8.1; have := LEW9.1; have := GL10.1; have := GH10.1; have := LEW10.1; have := LEW11.1; have := LEW12.1; have := GL12.1; have := GH12.1; have := LEW13.1; have := LEW14.1; have := LEW15.1; have := LEW16.1; have := LEW17.1; have := LEW18.1; have := LEW19.1; have := LEW20.1; have := LEW21.1; have := LEW22.1; have := LEW23.1; have := LEW24.1; have := LEW25.1; have := LEW26.1; have := LEW27.1; have := GL17.1; have := GH17.1;  omega); have nb12_17 : gb12 ≠ gb17 := (by have := LEW1.1; have := GL3.1; have := GH3.1; have := LEW2.1; have := LEW3.1; have := LEW4.1; have := LEW5.1; have := LEW6.1; have := LEW7.1; have := GL8.1; have := GH8.1; have := LEW8.1; have := LEW9.1; have := GL10.1; have := GH10.1; have := LEW10.1; have := LEW11.1; have := LEW12.1; have := GL12.1; have := GH12.1; have := LEW13.1; have := LEW14.1; have := LEW15.1; have := LEW16.1; have := LEW17.1; have := LEW18.1; have := LEW19.1; have := LEW20.1; have := LEW21.1; have := LEW22.1; have := LEW23.1; have := LEW24.1; have := LEW25.1; have := LEW26.1; have := LEW27.1; have := GL17.1; have := GH17.1;  omega); (try clear hcz17_0 hcz17_1 hfz17_0 hfz17_1); have hcz17_0 : W27.cell? ⟨gb17, 0, none⟩ = some (.slice none 0 0) := (blk_cell BK17.1 0).trans rfl; have hcz17_1 : W27.cell? ⟨gb17, 1, none⟩ = some (.slice none 0 0) := (blk_cell BK17.1 1).trans rfl; have hfz17_0 := blk_frozen BK17.1 0; have hfz17_1 := blk_frozen BK17.1 1; (try clear hcz8_0 hcz8_1 hfz8_0 hfz8_1); have hcz8_0 : W27.cell? ⟨gb8, 0, none⟩ = some (.slice Aw0 w1.length cw0) := (blk_cell BK8.1 0).trans rfl; have hcz8_1 : W27.cell? ⟨gb8, 1, none⟩ = some (.slice Aw1 w2.length cw1) := (blk_cell BK8.1 1).trans rfl; have hfz8_0 := blk_frozen BK8.1 0; have hfz8_1 := blk_frozen BK8.1 1) | ((with_reducible refine gate_callee (f := 25) rfl ?_); refine goesL_ (some 112) rfl rfl Try.func25 (by kernel_rfl) rfl #[.agg #[.slice Ah0 h1.length ch0, .slice Ah1 h2.length ch1], .agg #[.slice Aw0 w1.length cw0, .slice Aw1 w2.length cw1]] rfl (pY36) ?_; (refine (BkS.eqN (k := k) (r := true) (BkS.kept KH.out (Kept.two (w := W27) (g := gb17) 0 1 (.slice Ah0 h1.length ch0) (.slice Ah1 h2.length ch1)) (fun k_ h1_ h2_ e_ => by have := LEW1.1; have := GL3.1; have := GH3.1; have := LEW2.1; have := LEW3.1; have := LEW4.1; have := LEW5.1; have := LEW6.1; have := LEW7.1; have := GL8.1; have := GH8.1; have := LEW8.1; have := LEW9.1; have := GL10.1; have := GH10.1; have := LEW10.1; have := LEW11.1; have := LEW12.1; have := GL12.1; have := GH12.1; have := LEW13.1; have := LEW14.1; have := LEW15.1; have := LEW16.1; have := LEW17.1; have := LEW18.1; have := LEW19.1; have := LEW20.1; have := LEW21.1; have := LEW22.1; have := LEW23.1; have := LEW24.1; have := LEW25.1; have := LEW26.1; have := LEW27.1; have := GL17.1; have := GH17.1;  omega)) (BkN.kept KW.out (Kept.two (w := W27) (g := gb17) 0 1 (.slice Ah0 h1.length ch0) (.slice Ah1 h2.length ch1)) (fun k_ h1_ h2_ e_ => by have := LEW1.1; have := GL3.1; have := GH3.1; have := LEW2.1; have := LEW3.1; have := LEW4.1; have := LEW5.1; have := LEW6.1; have := LEW7.1; have := GL8.1; have := GH8.1; have := LEW8.1; have := LEW9.1; have := GL10.1; have := GH10.1; have := LEW10.1; have := LEW11.1; have := LEW12.1; have := GL12.1; have := GH12.1; have := LEW13.1; have := LEW14.1; have := LEW15.1; have := LEW16.1; have := LEW17.1; have := LEW18.1; have := LEW19.1; have := LEW20.1; have := LEW21.1; have := LEW22.1; have := LEW23.1; have := LEW24.1; have := LEW25.1; have := LEW26.1; have := LEW27.1; have := GL17.1; have := GH17.1;  omega)) D20.1).mono ?_); rintro e_ W28 ⟨rfl, hb⟩; refine ⟨_, rfl, ?_⟩; have HB0 := Aside0.mk (show w.heap.size ≤ W27.heap.size from HB.1.size); have hk_ : Kept W27 W28 (fun k => k = gb17) := (Kept.two (w := W27) (g := gb17) 0 1 (.slice Ah0 h1.length ch0) (.slice Ah1 h2.length ch1)).below hb; have LEW28 := Aside0.mk (show W27.heap.size ≤ W28.heap.size from hk_.1); have n0_ := Aside0.mk (BkN.kept KW.out hk_ (fun k_ h1_ h2_ e_ => by have := LEW1.1; have := GL3.1; have := GH3.1; have := LEW2.1; have := LEW3.1; have := LEW4.1; have := LEW5.1; have := LEW6.1; have := LEW7.1; have := GL8.1; have := GH8.1; have := LEW8.1; have := LEW9.1; have := GL10.1; have := GH10.1; have := LEW10.1; have := LEW11.1; have := LEW12.1; have := GL12.1; have := GH12.1; have := LEW13.1; have := LEW14.1; have := LEW15.1; have := LEW16.1; have := LEW17.1; have := LEW18.1; have := LEW19.1; have := LEW20.1; have := LEW21.1; have := LEW22.1; have := LEW23.1; have := LEW24.1; have := LEW25.1; have := LEW26.1; have := LEW27.1; have := GL17.1; have := GH17.1;  omega)); have n1_ := Aside0.mk (BkS.kept KX.out hk_ (fun k_ h1_ h2_ e_ => by have := LEW1.1; have := GL3.1; have := GH3.1; have := LEW2.1; have := LEW3.1; have := LEW4.1; have := LEW5.1; have := LEW6.1; have := LEW7.1; have := GL8.1; have := GH8.1; have := LEW8.1; have := LEW9.1; have := GL10.1; have := GH10.1; have := LEW10.1; have := LEW11.1; have := LEW12.1; have := GL12.1; have := GH12.1; have := LEW13.1; have := LEW14.1; have := LEW15.1; have := LEW16.1; have := LEW17.1; have := LEW18.1; have := LEW19.1; have := LEW20.1; have := LEW21.1; have := LEW22.1; have := LEW23.1; have := LEW24.1; have := LEW25.1; have := LEW26.1; have := LEW27.1; have := GL17.1; have := GH17.1;  omega)); have n2_ := Aside0.mk (RwS.kept KY.out hk_ (fun k_ h1_ h2_ e_ => by have := LEW1.1; have := GL3.1; have := GH3.1; have := LEW2.1; have := LEW3.1; have := LEW4.1; have := LEW5.1; have := LEW6.1; have := LEW7.1; have := GL8.1; have := GH8.1; have := LEW8.1; have := LEW9.1; have := GL10.1; have := GH10.1; have := LEW10.1; have := LEW11.1; have := LEW12.1; have := GL12.1; have := GH12.1; have := LEW13.1; have := LEW14.1; have := LEW15.1; have := LEW16.1; have := LEW17.1; have := LEW18.1; have := LEW19.1; have := LEW20.1; have := LEW21.1; have := LEW22.1; have := LEW23.1; have := LEW24.1; have := LEW25.1; have := LEW26.1; have := LEW27.1; have := GL17.1; have := GH17.1;  omega)); have n3_ := Aside0.mk (BkS.kept KG.out hk_ (fun k_ h1_ h2_ e_ => by have := LEW1.1; have := GL3.1; have := GH3.1; have := LEW2.1; have := LEW3.1; have := LEW4.1; have := LEW5.1; have := LEW6.1; have := LEW7.1; have := GL8.1; have := GH8.1; have := LEW8.1; have := LEW9.1; have := GL10.1; have := GH10.1; have := LEW10.1; have := LEW11.1; have := LEW12.1; have := GL12.1; have := GH12.1; have := LEW13.1; have := LEW14.1; have := LEW15.1; have := LEW16.1; have := LEW17.1; have := LEW18.1; have := LEW19.1; have := LEW20.1; have := LEW21.1; have := LEW22.1; have := LEW23.1; have := LEW24.1; have := LEW25.1; have := LEW26.1; have := LEW27.1; have := GL17.1; have := GH17.1;  omega)); have n4_ := Aside0.mk (BkS.kept KH.out hk_ (fun k_ h1_ h2_ e_ => by have := LEW1.1; have := GL3.1; have := GH3.1; have := LEW2.1; have := LEW3.1; have := LEW4.1; have := LEW5.1; have := LEW6.1; have := LEW7.1; have := GL8.1; have := GH8.1; have := LEW8.1; have := LEW9.1; have := GL10.1; have := GH10.1; have := LEW10.1; have := LEW11.1; have := LEW12.1; have := GL12.1; have := GH12.1; have := LEW13.1; have := LEW14.1; have := LEW15.1; have := LEW16.1; have := LEW17.1; have := LEW18.1; have := LEW19.1; have := LEW20.1; have := LEW21.1; have := LEW22.1; have := LEW23.1; have := LEW24.1; have := LEW25.1; have := LEW26.1; have := LEW27.1; have := GL17.1; have := GH17.1;  omega)); have nb3_ := Aside0.mk (blk_kept BK3.1 hk_ (fun e_ => by have := LEW1.1; have := GL3.1; have := GH3.1; have := LEW2.1; have := LEW3.1; have := LEW4.1; have := LEW5.1; have := LEW6.1; have := LEW7.1; have := GL8.1; have := GH8.1; have := LEW8.1; have := LEW9.1; have := GL10.1; have := GH10.1; have := LEW10.1; have := LEW11.1; have := LEW12.1; have := GL12.1; have := GH12.1; have := LEW13.1; have := LEW14.1; have := LEW15.1; have := LEW16.1; have := LEW17.1; have := LEW18.1; have := LEW19.1; have := LEW20.1; have := LEW21.1; have := LEW22.1; have := LEW23.1; have := LEW24.1; have := LEW25.1; have := LEW26.1; have := LEW27.1; have := GL17.1; have := GH17.1;  omega)); have nb8_ := Aside0.mk (blk_kept BK8.1 hk_ (fun e_ => by have := LEW1.1; have := GL3.1; have := GH3.1; have := LEW2.1; have := LEW3.1; have := LEW4.1; have := LEW5.1; have := LEW6.1; have := LEW7.1; have := GL8.1; have := GH8.1; have := LEW8.1; have := LEW9.1; have := GL10.1; have := GH10.1; have := LEW10.1; have := LEW11.1; have := LEW12.1; have := GL12.1; have := GH12.1; have := LEW13.1; have := LEW14.1; have := LEW15.1; have := LEW16.1; have := LEW17.1; have := LEW18.1; have := LEW19.1; have := LEW20.1; have := LEW21.1; have := LEW22.1; have := LEW23.1; have := LEW24.1; have := LEW25.1; have := LEW26.1; have := LEW27.1; have := GL17.1; have := GH17.1;  omega)); have nb10_ := Aside0.mk (blk_kept BK10.1 hk_ (fun e_ => by have := LEW1.1; have := GL3.1; have := GH3.1; have := LEW2.1; have := LEW3.1; have := LEW4.1; have := LEW5.1; have := LEW6.1; have := LEW7.1; have := GL8.1; have := GH8.1; have := LEW8.1; have := LEW9.1; have := GL10.1; have := GH10.1; have := LEW10.1; have := LEW11.1; have := LEW12.1; have := GL12.1; have := GH12.1; have := LEW13.1; have := LEW14.1; have := LEW15.1; have := LEW16.1; have := LEW17.1; have := LEW18.1; have := LEW19.1; have := LEW20.1; have := LEW21.1; have := LEW22.1; have := LEW23.1; have := LEW24.1; have := LEW25.1; have := LEW26.1; have := LEW27.1; have := GL17.1; have := GH17.1;  omega)); have nb12_ := Aside0.mk (blk_kept BK12.1 hk_ (fun e_ => by have := LEW1.1; have := GL3.1; have := GH3.1; have := LEW2.1; have := LEW3.1; have := LEW4.1; have := LEW5.1; have := LEW6.1; have := LEW7.1; have := GL8.1; have := GH8.1; have := LEW8.1; have := LEW9.1; have := GL10.1; have := GH10.1; have := LEW10.1; have := LEW11.1; have := LEW12.1; have := GL12.1; have := GH12.1; have := LEW13.1; have := LEW14.1; have := LEW15.1; have := LEW16.1; have := LEW17.1; have := LEW18.1; have := LEW19.1; have := LEW20.1; have := LEW21.1; have := LEW22.1; have := LEW23.1; have := LEW24.1; have := LEW25.1; have := LEW26.1; have := LEW27.1; have := GL17.1; have := GH17.1;  omega)); clear KW KX KY KG KH BK3 BK8 BK10 BK12; have KW := n0_; have KX := n1_; have KY := n2_; have KG := n3_; have KH := n4_; have BK3 := nb3_; have BK8 := nb8_; have BK10 := nb10_; have BK12 := nb12_; clear n0_ n1_ n2_ n3_ n4_ nb3_ nb8_ nb10_ nb12_; have nb_ := Aside0.mk (blk_below (g := gb17) (o := .cells #[.slice Ah0 h1.length ch0, .slice Ah1 h2.length ch1] 31 (0, 0)) (blk_put (cs := #[.slice Ah0 h1.length ch0, .slice none 0 0]) (blk_put (cs := #[.slice none 0 0, .slice none 0 0]) BK17.1 0 _ rfl) 1 _ rfl) hb); clear BK17; have BK17 := nb_; clear nb_; have n_ := Aside0.mk (below_step (below_set (below_set HB.1 GE17.1) GE17.1) hb); clear HB; have HB := n_; clear n_; (try clear hb); (try clear hk_); (try clear hkk); (try clear hbb); (try clear hcz12_0 hcz12_1 hfz12_0 hfz12_1); have hcz12_0 : W28.cell? ⟨gb12, 0, none⟩ = some (.slice Ag0 g1.length cg0) := (blk_cell BK12.1 0).trans rfl; have hcz12_1 : W28.cell? ⟨gb12, 1, none⟩ = some (.slice Ag1 g2.length cg1) := (blk_cell BK12.1 1).trans rfl; have hfz12_0 := blk_frozen BK12.1 0; have hfz12_1 := blk_frozen BK12.1 1; (try clear HB0)) | ((with_reducible refine gate_callee (f := 48) rfl ?_); refine goesL_ (some 121) rfl rfl Try.func48 (by kernel_rfl) rfl #[.agg #[.slice Ag0 g1.length cg0, .slice Ag1 g2.length cg1], .int .i64 1] rfl (pY36) ?_; (refine (BkS.held (k := k) (q := q2) KG.out D21.1).mono ?_); rintro e_ W29 ⟨rfl, hb⟩; refine ⟨_, rfl, ?_⟩; have HB0 := Aside0.mk (show w.heap.size ≤ W28.heap.size from HB.1.size); have hk_ : Kept W28 W29 (fun _ => False) := Kept.noth hb; have LEW29 := Aside0.mk (show W28.heap.size ≤ W29.heap.size from hk_.1); have n0_ := Aside0.mk (BkN.kept KW.out hk_ (fun _ _ _ h => h)); have n1_ := Aside0.mk (BkS.kept KX.out hk_ (fun _ _ _ h => h)); have n2_ := Aside0.mk (RwS.kept KY.out hk_ (fun _ _ _ h => h)); have n3_ := Aside0.mk (BkS.kept KG.out hk_ (fun _ _ _ h => h)); have n4_ := Aside0.mk (BkS.kept KH.out hk_ (fun _ _ _ h => h)); have nb3_ := Aside0.mk (blk_kept BK3.1 hk_ (fun h => h)); have nb8_ := Aside0.mk (blk_kept BK8.1 hk_ (fun h => h)); have nb10_ := Aside0.mk (blk_kept BK10.1 hk_ (fun h => h)); have nb12_ := Aside0.mk (blk_kept BK12.1 hk_ (fun h => h)); have nb17_ := Aside0.mk (blk_kept BK17.1 hk_ (fun h => h)); clear KW KX KY KG KH BK3 BK8 BK10 BK12 BK17; have KW := n0_; have KX := n1_; have KY := n2_; have KG := n3_; have KH := n4_; have BK3 := nb3_; have BK8 := nb8_; have BK10 := nb10_; have BK12 := nb12_; have BK17 := nb17_; clear n0_ n1_ n2_ n3_ n4_ nb3_ nb8_ nb10_ nb12_ nb17_; have n_ := Aside0.mk (below_step (HB.1) hb); clear HB; have HB := n_; clear n_; (try clear hb); (try clear hk_); (try clear hkk); (try clear hbb); (try clear HB0)))
 go_ret
 exact ⟨rfl, HB.1⟩
end Go.Proofs.Ytaofjgnhapnndaa.Q
namespace Go.Proofs.Ytaofjgnhapnndaa.Q
open Go.RowKit Go.Proofs.YtaofjgnhapnndaaW.PrintWords Go.Proofs.YtaofjgnhapnndaaW.PrintLast Go.Proofs.YtaofjgnhapnndaaW.PrintMore
set_option linter.unusedVariables false
set_option linter.unusedSimpArgs false
theorem wrap64_id (n : Int) (h : -9223372036854775808 ≤ n ∧ n ≤ 9223372036854775807) : wrap64 n = n := by unfold wrap64; omega
theorem markText_l0_ev : ∀ (n : Nat) (acc : ByteArray), acc.size + n + 2 ≤ 9223372036854775807 → ∃ t, Ev (fun k => laws_markText.l0 k (n : Int) acc) t := by
  intro n
  induction n using Nat.strongRecOn with
  | ind n ih =>
    intro acc hb
    by_cases h0 : n = 0
    · subst h0
      exact ⟨_, Ev.step (fun k => laws_markText.l0.eq_2 _ acc k) (Ev.neg (by decide) (Ev.pos (by omega) (Ev.ret rfl)))⟩
    · have hs : (strOfNums [(wrap64 (48 + (Int.tmod (n : Int) 10))) % 256]).size = 1 := rfl
      obtain ⟨t, ht⟩ := ih (n / 10) (by omega) (strOfNums [(wrap64 (48 + (Int.tmod (n : Int) 10))) % 256] ++ acc) (by rw [ByteArray.size_append, hs]; omega)
      refine ⟨t, Ev.step (fun k => laws_markText.l0.eq_2 _ acc k) (Ev.pos (by omega) (Ev.bind (Ev.ret rfl) (Ev.pos (by rw [hs]; omega) ?_)))⟩
      have e : wrap64 (Int.tdiv (n : Int) 10) = ((n / 10 : Nat) : Int) := by
        have : Int.tdiv (n : Int) 10 = ((n / 10 : Nat) : Int) := rfl
        rw [this]; exact wrap64_id _ (by omega)
      rw [e]
      exact ht
theorem markText_ev (a : Int) (h0 : 0 ≤ a) (h1 : a ≤ 4611686018427387904) : ∃ t, Ev (fun k => laws_markText.f k a) t := by
  unfold laws_markText.f
  by_cases h : a ≤ 0
  · exact ⟨_, Ev.pos h (Ev.ret rfl)⟩
  · obtain ⟨n, rfl⟩ := Int.eq_ofNat_of_zero_le h0
    obtain ⟨t, ht⟩ := markText_l0_ev n ⟨#[]⟩ (by show 0 + n + 2 ≤ _; omega)
    exact ⟨t, Ev.neg h ht⟩
open Classical in
noncomputable def markT (a : Int) : ByteArray := if h : 0 ≤ a ∧ a ≤ 4611686018427387904 then Classical.choose (markText_ev a h.1 h.2) else ⟨#[]⟩
theorem markT_ev {a : Int} (h0 : 0 ≤ a) (h1 : a ≤ 4611686018427387904) : Ev (fun k => laws_markText.f k a) (markT a) := by
  have e : markT a = Classical.choose (markText_ev a h0 h1) := dif_pos ⟨h0, h1⟩
  rw [e]
  exact Classical.choose_spec (markText_ev a h0 h1)
noncomputable def marksL (a : Int) (n : Nat) : List ByteArray := (List.range n).map fun (j : Nat) => markT (a + j)
theorem marksL_len (a : Int) (n : Nat) : (marksL a n).length = n := by simp [marksL]
theorem marksL_at (a : Int) {n i : Nat} (h : i < n) (z : ByteArray) : (marksL a n).getD i z = markT (a + i) := by
  unfold marksL
  rw [List.getD_eq_getElem?_getD, List.getElem?_map, List.getElem?_range h]
  rfl
theorem marksL_set (a : Int) (l : List ByteArray) {i : Nat} (h : i < l.length) : (marksL a i ++ l.drop i).set i (markT (a + i)) = marksL a (i + 1) ++ l.drop (i + 1) := by
  rw [List.set_append_right _ _ (by rw [marksL_len]; omega), marksL_len, Nat.sub_self, List.drop_eq_getElem_cons h, List.set_cons_zero]
  simp [marksL, List.range_succ]
theorem markStringS_ev (l : List ByteArray) (a : Int) (h0 : 0 ≤ a) (h1 : a + l.length ≤ 4611686018427387904) : Ev (fun k => laws_markStringS.f k l a) (a + l.length, marksL a l.length) := by
  have go : ∀ (d i : Nat), l.length - i = d → i ≤ l.length → Ev (fun k => laws_markStringS.l0 k (marksL a i ++ l.drop i) (a + i) (i : Int)) (a + l.length, marksL a l.length) := by
    intro d
    induction d with
    | zero =>
      intro i hd hi
      have e : i = l.length := by omega
      subst e
      refine Ev.step (fun k => laws_markStringS.l0.eq_2 _ _ _ k) (Ev.neg (by rw [List.length_append, marksL_len, List.length_drop]; omega) (Ev.ret ?_))
      rw [List.drop_length, List.append_nil]
    | succ d ih =>
      intro i hd hi
      refine Ev.step (fun k => laws_markStringS.l0.eq_2 _ _ _ k) (Ev.pos (by rw [List.length_append, marksL_len, List.length_drop]; omega) (Ev.bind (markT_ev (by omega) (by omega)) (Ev.pos (by omega) ?_)))
      rw [Int.toNat_natCast, marksL_set a l (by omega), wrap64_id (a + i + 1) (by omega), wrap64_id ((i : Int) + 1) (by omega)]
      have := ih (i + 1) (by omega) (by omega)
      rw [show a + ((i + 1 : Nat) : Int) = a + i + 1 by omega, show ((i + 1 : Nat) : Int) = (i : Int) + 1 by omega] at this
      exact this
  have := go l.length 0 (by omega) (by omega)
  simpa [marksL, laws_markStringS.f] using this
theorem heldStringS_ev (n : Nat) (a : Int) (h0 : 0 ≤ a) (h1 : a + n ≤ 4611686018427387904) : Ev (fun k => laws_heldStringS.f k (marksL a n) a) (a + n) := by
  have go : ∀ (d i : Nat), n - i = d → i ≤ n → Ev (fun k => laws_heldStringS.l0 k (marksL a n) (a + i) (i : Int)) (a + n) := by
    intro d
    induction d with
    | zero =>
      intro i hd hi
      have e : i = n := by omega
      subst e
      exact Ev.step (fun k => laws_heldStringS.l0.eq_2 _ _ _ k) (Ev.neg (by rw [marksL_len]; omega) (Ev.ret rfl))
    | succ d ih =>
      intro i hd hi
      refine Ev.step (fun k => laws_heldStringS.l0.eq_2 _ _ _ k) (Ev.pos (by rw [marksL_len]; omega) (Ev.pos (by omega) (Ev.bind (markT_ev (by omega) (by omega)) (Ev.pos ?_ ?_))))
      · show ((marksL a n).getD (i : Int).toNat _).toList = _
        rw [Int.toNat_natCast, marksL_at a (by omega)]
      · rw [wrap64_id (a + i + 1) (by omega), wrap64_id ((i : Int) + 1) (by omega)]
        have := ih (i + 1) (by omega) (by omega)
        rw [show a + ((i + 1 : Nat) : Int) = a + i + 1 by omega, show ((i + 1 : Nat) : Int) = (i : Int) + 1 by omega] at this
        exact this
  have := go n 0 (by omega) (by omega)
  simpa [laws_heldStringS.f] using this
end Go.Proofs.Ytaofjgnhapnndaa.Q
namespace Go.Proofs.Ytaofjgnhapnndaa.Q
open Go.RowKit Go.Proofs.YtaofjgnhapnndaaW.PrintWords Go.Proofs.YtaofjgnhapnndaaW.PrintLast Go.Proofs.YtaofjgnhapnndaaW.PrintMore
set_option linter.unusedVariables false
set_option linter.unusedSimpArgs false
def wMark (l : List IB) : Nat := (l.map fun b => 1 + b.f1.length + b.f2.length).sum
noncomputable def marksB : Int → List IB → Int × List IB
  | a, [] => (a, [])
  | a, b :: r => ((marksB (a + 1 + b.f1.length + b.f2.length) r).1, ⟨markT a, marksL (a + 1) b.f1.length, marksL (a + 1 + b.f1.length) b.f2.length⟩ :: (marksB (a + 1 + b.f1.length + b.f2.length) r).2)
theorem wMark_cons (b : IB) (r : List IB) : wMark (b :: r) = 1 + b.f1.length + b.f2.length + wMark r := by simp [wMark]
theorem rdT_mid (dn : List IB) (b : IB) (r : List IB) : rd_T56 (dn ++ b :: r) (dn.length : Int) = b := by
  unfold rd_T56
  rw [Int.toNat_natCast, List.getD_eq_getElem?_getD, List.getElem?_append_right (Nat.le_refl _), Nat.sub_self]
  rfl
theorem setT_mid (dn : List IB) (b x : IB) (r : List IB) : (dn ++ b :: r).set dn.length x = (dn ++ [x]) ++ r := by
  rw [List.set_append_right _ _ (Nat.le_refl _), Nat.sub_self]; simp
theorem markBatchS_ev : ∀ (rest dn : List IB) (a : Int), 0 ≤ a → a + wMark rest + dn.length + rest.length ≤ 4611686018427387904 → Ev (fun k => laws_markShareBatchS.l0 k (dn ++ rest) a (dn.length : Int)) ((marksB a rest).1, dn ++ (marksB a rest).2) := by
  intro rest
  induction rest with
  | nil =>
    intro dn a h0 h1
    exact Ev.step (fun k => laws_markShareBatchS.l0.eq_2 _ _ _ k) (Ev.neg (by simp) (Ev.ret rfl))
  | cons b r ih =>
    intro dn a h0 h1
    rw [wMark_cons, List.length_cons] at h1
    refine Ev.step (fun k => laws_markShareBatchS.l0.eq_2 _ _ _ k) (Ev.pos (by simp; omega) (Ev.pos (by omega) (Ev.bind (markT_ev h0 (by omega)) ?_)))
    rw [rdT_mid, wrap64_id (a + 1) (by omega), wrap64_id ((dn.length : Int) + 1) (by omega), Int.toNat_natCast]
    refine Ev.bind (markStringS_ev b.f1 (a + 1) (by omega) (by omega)) (Ev.bind (markStringS_ev b.f2 (a + 1 + b.f1.length) (by omega) (by omega)) ?_)
    dsimp only
    rw [setT_mid]
    have := ih (dn ++ [⟨markT a, marksL (a + 1) b.f1.length, marksL (a + 1 + b.f1.length) b.f2.length⟩]) (a + 1 + b.f1.length + b.f2.length) (by omega) (by simp only [List.length_append, List.length_singleton]; omega)
    rw [show ((dn ++ [(⟨markT a, marksL (a + 1) b.f1.length, marksL (a + 1 + b.f1.length) b.f2.length⟩ : IB)]).length : Int) = (dn.length : Int) + 1 by simp] at this
    exact Ev.sub this (by simp [marksB])
theorem heldBatchS_ev : ∀ (rest dn : List IB) (a : Int), 0 ≤ a → a + wMark rest + dn.length + rest.length ≤ 4611686018427387904 → Ev (fun k => laws_heldShareBatchS.l0 k (dn ++ (marksB a rest).2) a (dn.length : Int)) (marksB a rest).1 := by
  intro rest
  induction rest with
  | nil =>
    intro dn a h0 h1
    exact Ev.step (fun k => laws_heldShareBatchS.l0.eq_2 _ _ _ k) (Ev.neg (by simp [marksB]) (Ev.ret rfl))
  | cons b r ih =>
    intro dn a h0 h1
    rw [wMark_cons, List.length_cons] at h1
    simp only [marksB]
    refine Ev.step (fun k => laws_heldShareBatchS.l0.eq_2 _ _ _ k) (Ev.pos (by simp; omega) (Ev.pos (by omega) (Ev.bind (markT_ev h0 (by omega)) ?_)))
    rw [rdT_mid, wrap64_id (a + 1) (by omega), wrap64_id ((dn.length : Int) + 1) (by omega)]
    refine Ev.pos rfl (Ev.bind (heldStringS_ev b.f1.length (a + 1) (by omega) (by omega)) (Ev.neg (by omega) (Ev.bind (heldStringS_ev b.f2.length (a + 1 + b.f1.length) (by omega) (by omega)) (Ev.neg (by omega) ?_))))
    have := ih (dn ++ [⟨markT a, marksL (a + 1) b.f1.length, marksL (a + 1 + b.f1.length) b.f2.length⟩]) (a + 1 + b.f1.length + b.f2.length) (by omega) (by simp only [List.length_append, List.length_singleton]; omega)
    rw [show ((dn ++ [(⟨markT a, marksL (a + 1) b.f1.length, marksL (a + 1 + b.f1.length) b.f2.length⟩ : IB)]).length : Int) = (dn.length : Int) + 1 by simp, List.append_assoc, List.singleton_append] at this
    exact this
end Go.Proofs.Ytaofjgnhapnndaa.Q
namespace Go.Proofs.Ytaofjgnhapnndaa.Q
open Go.RowKit Go.Proofs.YtaofjgnhapnndaaW.PrintWords Go.Proofs.YtaofjgnhapnndaaW.PrintLast Go.Proofs.YtaofjgnhapnndaaW.PrintMore
set_option linter.unusedVariables false
set_option linter.unusedSimpArgs false
def atI (bs : List IB) (n : ByteArray) : Int := idxI (fun s => s.toList == n.toList) bs 0
theorem spec_l1At_ev (ts : List ByteArray) (bs : List IB) (n : ByteArray) (hl : bs.length ≤ 9223372036854775807) : Ev (fun k => spec_l1At.f k ts bs n) (atI bs n) := by
  unfold spec_l1At.f atI
  refine Ev.loop (f := fun k i => spec_l1At.l0 k n (i : Int) ts bs) (val := fun i => idxI (fun s => s.toList == n.toList) bs i) bs.length ?_ ?_ 0 (by omega)
  · simp only [idxI_end]
    exact Ev.step (fun k => spec_l1At.l0.eq_2 n _ ts bs k) (Ev.neg (by omega) (Ev.ret rfl))
  · intro i hi H
    simp only [idxI_step (fun s => s.toList == n.toList) hi]
    refine Ev.step (fun k => spec_l1At.l0.eq_2 n _ ts bs k) (Ev.pos (by omega) (Ev.pos (by omega) ?_))
    rw [rdB_cast, wrap_up hi hl]
    refine Ev.prop (fun h => Ev.ret (by rw [if_pos (beq_iff_eq.mpr h)])) (fun h => Ev.sub H (by rw [if_neg (fun e => h (beq_iff_eq.mp e))]))
end Go.Proofs.Ytaofjgnhapnndaa.Q
namespace Go.Proofs.Ytaofjgnhapnndaa.Q
open Go.RowKit Go.Proofs.YtaofjgnhapnndaaW.PrintWords Go.Proofs.YtaofjgnhapnndaaW.PrintLast Go.Proofs.YtaofjgnhapnndaaW.PrintMore
set_option linter.unusedVariables false
set_option linter.unusedSimpArgs false
theorem marksB_fst : ∀ (l : List IB) (a : Int), (marksB a l).1 = a + wMark l
  | [], a => by simp [marksB, wMark]
  | b :: r, a => by
    simp only [marksB, wMark_cons]
    rw [marksB_fst r]; omega
theorem wMark_le : ∀ (bs : List LB), wMark (bs.map toB) ≤ bs.length + sumL bs
  | [] => by simp [wMark]
  | b :: r => by
    have h := wMark_le r
    rw [List.map_cons, wMark_cons, List.length_cons, show sumL (b :: r) = wL b + sumL r by simp [sumL]]
    have : (toB b).f1.length + (toB b).f2.length ≤ wL b := by unfold wL wS toB; simp only; omega
    omega
theorem wBook_of {ts : List ByteArray} {bs : List LB} {a : Int} (ha : a = 1048576 - (wBook ts bs : Int)) (h0 : 0 ≤ a) : wBook ts bs ≤ 1048576 := by omega
end Go.Proofs.Ytaofjgnhapnndaa.Q
namespace Go.Proofs.Ytaofjgnhapnndaa.Q
open Go.RowKit Go.Proofs.YtaofjgnhapnndaaW.PrintWords Go.Proofs.YtaofjgnhapnndaaW.PrintLast Go.Proofs.YtaofjgnhapnndaaW.PrintMore
set_option linter.unusedVariables false
set_option linter.unusedSimpArgs false
theorem len_of_wS {l : List ByteArray} {n : Nat} (h : wS l ≤ n) : l.length ≤ n := by unfold wS at h; omega
theorem le_sum_map {α : Type} (f : α → Nat) : ∀ {l : List α} {x : α}, x ∈ l → f x ≤ (l.map f).sum
  | a :: l, x, h => by
    rw [List.map_cons, List.sum_cons]
    rcases List.mem_cons.1 h with rfl | h
    · omega
    · have := le_sum_map f h; omega
theorem size_of_wS {l : List ByteArray} {n : Nat} (h : wS l ≤ n) : ∀ s ∈ l, s.size ≤ n := fun s hs => by
  have := le_sum_map ByteArray.size hs
  unfold wS sumS at h
  omega
structure Sm (n : Nat) (ts : List ByteArray) (bs : List LB) : Prop where
  lt : ts.length ≤ n
  lb : bs.length ≤ n
  b1 : ∀ b ∈ bs, b.f1.length ≤ n
  b2 : ∀ b ∈ bs, b.f2.length ≤ n
  s0 : ∀ s ∈ ts, s.size ≤ n
  s1 : ∀ b ∈ bs, b.f0.size ≤ n
  s2 : ∀ b ∈ bs, ∀ s ∈ b.f1, s.size ≤ n
  s3 : ∀ b ∈ bs, ∀ s ∈ b.f2, s.size ≤ n
theorem Sm.of {n : Nat} {ts : List ByteArray} {bs : List LB} (h : wBook ts bs ≤ n) : Sm n ts bs := by
  have hw : ∀ b ∈ bs, wL b ≤ n := fun b hb => by
    have := le_sum_map wL hb
    unfold wBook sumL at h
    omega
  refine ⟨len_of_wS (by unfold wBook at h; omega), by unfold wBook at h; omega, fun b hb => ?_, fun b hb => ?_, size_of_wS (by unfold wBook at h; omega), fun b hb => ?_, fun b hb => ?_, fun b hb => ?_⟩
  · have := hw b hb; unfold wL at this; exact len_of_wS (by omega)
  · have := hw b hb; unfold wL at this; exact len_of_wS (by omega)
  · have := hw b hb; unfold wL at this; omega
  · have := hw b hb; unfold wL at this; exact size_of_wS (by omega)
  · have := hw b hb; unfold wL at this; exact size_of_wS (by omega)
theorem Sm.bok {n : Nat} {ts : List ByteArray} {bs : List LB} (h : Sm n ts bs) (hn : n ≤ 9223372036854775807) : Bok (bs.map toB) := fun b hb => by
  obtain ⟨c, hc, rfl⟩ := List.mem_map.1 hb
  exact ⟨Nat.le_trans (h.b1 c hc) hn, Nat.le_trans (h.b2 c hc) hn⟩
theorem counted {ts : List ByteArray} {bs : List LB} (hi : Inok ts bs) {f : Nat → Int → Option Bool}
    (h : ∀ a, a = 1048576 - (wBook ts bs : Int) → 0 ≤ a → Sm 1048576 ts bs → Ev (fun k => f k a) true) :
    Ev (fun k => (laws_szShareBook.f k ts bs 1048576).bind fun t => if t < 0 then some true else f k t) true := by
  refine Ev.bind (szShareBook_ev ts bs 1048576 hi (by omega) (by omega)) ?_
  refine Ev.prop (fun _ => Ev.ret rfl) (fun h2 => ?_)
  obtain ⟨h3, h4⟩ := left_pos h2
  exact h _ h4 (by omega) (Sm.of (by omega))
theorem Sm.to_ev {ts : List ByteArray} {bs : List LB} (h : Sm 1048576 ts bs) : Ev (fun k => laws_toShareBook.f k ts bs) (ts, bs.map toB) :=
  toShareBook_ev ts bs (by have := h.lt; omega) (by have := h.lb; omega) (fun b hb => ⟨by have := h.b1 b hb; omega, by have := h.b2 b hb; omega⟩)
theorem Sm.eq_ev {ts : List ByteArray} {bs : List LB} (h : Sm 1048576 ts bs) : Ev (fun k => laws_eqShareBook.f k ts (bs.map toB) ts (bs.map toB)) true :=
  eqShareBook_ev ts _ (by have := h.lt; omega) (by have := h.lb; simp; omega) (h.bok (by omega))
theorem countedS {l : List ByteArray} {a : Int} (hl : l.length ≤ 9223372036854775807 ∧ ∀ s ∈ l, s.size ≤ 9223372036854775807) (h0 : 0 ≤ a) (h1 : a ≤ 1048576) {f : Nat → Int → Option Bool}
    (h : ∀ a2, 0 ≤ a2 → l.length ≤ 1048576 → (∀ s ∈ l, s.size ≤ 1048576) → Ev (fun k => f k a2) true) :
    Ev (fun k => (laws_szStringS.f k l a).bind fun t => if t < 0 then some true else f k t) true := by
  refine Ev.bind (szStringS_ev l a hl.1 hl.2 h0 (by omega)) ?_
  refine Ev.prop (fun _ => Ev.ret rfl) (fun h2 => ?_)
  obtain ⟨h3, h4⟩ := left_pos h2
  have hw : wS l ≤ 1048576 := by omega
  exact h _ (by omega) (len_of_wS hw) (size_of_wS hw)
end Go.Proofs.Ytaofjgnhapnndaa.Q
namespace Go.Proofs.Ytaofjgnhapnndaa.Q
open Go.RowKit Go.Proofs.YtaofjgnhapnndaaW.PrintWords Go.Proofs.YtaofjgnhapnndaaW.PrintLast Go.Proofs.YtaofjgnhapnndaaW.PrintMore
set_option linter.unusedVariables false
set_option linter.unusedSimpArgs false
def Bz (ts : List ByteArray) (bs : List IB) : Prop := ts.length + wMark bs ≤ 8388608
theorem wMark_mem {bs : List IB} {b : IB} (h : b ∈ bs) : 1 + b.f1.length + b.f2.length ≤ wMark bs := by
  unfold wMark; exact le_sum_map (fun b => 1 + b.f1.length + b.f2.length) h
theorem wMark_len : ∀ bs : List IB, bs.length ≤ wMark bs
  | [] => by simp [wMark]
  | b :: r => by have := wMark_len r; rw [wMark_cons, List.length_cons]; omega
theorem wMark_append (a b : List IB) : wMark (a ++ b) = wMark a + wMark b := by simp [wMark]
theorem Bz.ts {ts : List ByteArray} {bs : List IB} (h : Bz ts bs) : ts.length ≤ 8388608 := by unfold Bz at h; omega
theorem Bz.bs {ts : List ByteArray} {bs : List IB} (h : Bz ts bs) : bs.length ≤ 8388608 := by have := wMark_len bs; unfold Bz at h; omega
theorem Bz.mem {ts : List ByteArray} {bs : List IB} (h : Bz ts bs) {b : IB} (hb : b ∈ bs) : b.f1.length ≤ 8388608 ∧ b.f2.length ≤ 8388608 := by have := wMark_mem hb; unfold Bz at h; omega
theorem Bz.bok {ts : List ByteArray} {bs : List IB} (h : Bz ts bs) : Bok bs := fun b hb => by have := h.mem hb; omega
theorem gB_mem {bs : List IB} {i : Nat} (h : i < bs.length) : gB bs i ∈ bs := by unfold gB; rw [getD_lt bs _ h]; exact List.getElem_mem h
theorem Bz.at_ {ts : List ByteArray} {bs : List IB} (h : Bz ts bs) {i : Nat} (hi : i < bs.length) : (gB bs i).f1.length ≤ 8388608 ∧ (gB bs i).f2.length ≤ 8388608 := h.mem (gB_mem hi)
theorem l1Names_ev (l : List ByteArray) (h : l.length ≤ 8388608) : Ev (fun _ => spec_l1Names.f l) l := by
  unfold spec_l1Names.f
  exact Ev.bind (Ev.ret rfl) (Ev.pos (by simp only [List.length_nil]; omega) (Ev.ret rfl))
theorem clone_ev (l : List ByteArray) (h : l.length ≤ 8388608) : Ev (fun _ => slices_Clone_string_string.f l) l := by
  unfold slices_Clone_string_string.f
  exact Ev.pos (by omega) (Ev.ret rfl)
theorem take_gB {bs : List IB} {i : Nat} (h : i < bs.length) : bs.take i ++ [gB bs i] = bs.take (i + 1) := by
  rw [List.take_succ_eq_append_getElem h]; unfold gB; rw [getD_lt bs _ h]
theorem spec_l1Copy_ev (ts : List ByteArray) (bs : List IB) (h : Bz ts bs) : Ev (fun k => spec_l1Copy.f k ts bs) (ts, bs) := by
  unfold spec_l1Copy.f
  have hl := h.bs
  have go : ∀ (d i : Nat), bs.length - i = d → i ≤ bs.length → Ev (fun k => spec_l1Copy.l0 k (i : Int) ts bs ts (bs.take i)) (ts, bs) := by
    intro d
    induction d with
    | zero =>
      intro i hd hi
      refine Ev.step (fun k => spec_l1Copy.l0.eq_2 _ _ _ _ _ k) (Ev.neg (by omega) (Ev.ret ?_))
      rw [List.take_of_length_le (by omega)]
    | succ d ih =>
      intro i hd hi
      have hlt : i < bs.length := by omega
      refine Ev.step (fun k => spec_l1Copy.l0.eq_2 _ _ _ _ _ k) (Ev.pos (by omega) (Ev.pos (by omega) ?_))
      rw [rdB_cast, wrap_up hlt (by omega)]
      refine Ev.bind (l1Names_ev _ (h.at_ hlt).1) (Ev.bind (l1Names_ev _ (h.at_ hlt).2) (Ev.pos (by rw [List.length_take]; omega) ?_))
      have := ih (i + 1) (by omega) (by omega)
      rw [← take_gB hlt] at this
      exact this
  exact Ev.bind (l1Names_ev ts h.ts) (go bs.length 0 (by omega) (by omega))
theorem impl_copyBook_ev (ts : List ByteArray) (bs : List IB) (h : Bz ts bs) : Ev (fun k => impl_copyBook.f k ts bs) (ts, bs) := by
  unfold impl_copyBook.f
  have hl := h.bs
  have go : ∀ (d i : Nat), bs.length - i = d → i ≤ bs.length → Ev (fun k => impl_copyBook.l0 k bs (bs.length : Int) (i : Int) ts (bs.take i)) (ts, bs) := by
    intro d
    induction d with
    | zero =>
      intro i hd hi
      refine Ev.step (fun k => impl_copyBook.l0.eq_2 _ _ _ _ _ k) (Ev.neg (by omega) (Ev.ret ?_))
      rw [List.take_of_length_le (by omega)]
    | succ d ih =>
      intro i hd hi
      have hlt : i < bs.length := by omega
      refine Ev.step (fun k => impl_copyBook.l0.eq_2 _ _ _ _ _ k) (Ev.pos (by omega) (Ev.pos (by omega) (Ev.pos (by omega) ?_)))
      rw [rdB_cast, wrap_up hlt (by omega)]
      refine Ev.bind (clone_ev _ (h.at_ hlt).1) (Ev.bind (clone_ev _ (h.at_ hlt).2) (Ev.pos (by rw [List.length_take]; omega) ?_))
      have := ih (i + 1) (by omega) (by omega)
      rw [← take_gB hlt] at this
      exact this
  exact Ev.bind (clone_ev ts h.ts) (go bs.length 0 (by omega) (by omega))
theorem markB_ev {ts : List ByteArray} {bs : List IB} (h : Bz ts bs) : Ev (fun k => laws_markShareBook.fB k ts bs 1) (1 + ts.length + wMark bs, marksL 1 ts.length, (marksB (1 + ts.length) bs).2) := by
  have h1 := h
  have h2 := wMark_len bs
  unfold Bz at h1
  unfold laws_markShareBook.fB laws_markShareBatchS.f
  have e := markBatchS_ev bs [] (1 + ts.length) (by omega) (by simp only [List.length_nil]; omega)
  refine Ev.bind (markStringS_ev ts 1 (by omega) (by omega)) (Ev.bind e (Ev.ret ?_))
  rw [marksB_fst]; rfl
theorem heldB_ev {ts : List ByteArray} {bs : List IB} (h : Bz ts bs) : Ev (fun k => laws_heldShareBook.f k (marksL 1 ts.length) (marksB (1 + ts.length) bs).2 1) (1 + ts.length + wMark bs) := by
  have h1 := h
  have h2 := wMark_len bs
  unfold Bz at h1
  unfold laws_heldShareBook.f laws_heldShareBatchS.f
  have e := heldBatchS_ev bs [] (1 + ts.length) (by omega) (by simp only [List.length_nil]; omega)
  rw [marksB_fst] at e
  exact Ev.bind (heldStringS_ev ts.length 1 (by omega) (by omega)) (Ev.neg (by omega) (Ev.bind e (Ev.neg (by omega) (Ev.ret rfl))))
theorem Bz.eq_ev {ts : List ByteArray} {bs : List IB} (h : Bz ts bs) : Ev (fun k => laws_eqShareBook.f k ts bs ts bs) true :=
  eqShareBook_ev ts bs (by have := h.ts; omega) (by have := h.bs; omega) (fun b hb => by have := h.mem hb; omega)
theorem Bz.of {ts : List ByteArray} {bs : List LB} (hw : wBook ts bs ≤ 1048576) : ts.length + wMark (bs.map toB) ≤ 1048576 := by
  have := wMark_le bs
  unfold wBook wS at hw; omega
theorem Bz.nil : Bz [] [] := by simp [Bz, wMark]
theorem ne_Bz {ts : List ByteArray} {bs : List IB} (h : ts.length + wMark bs ≤ 1048576) : Bz ts bs := by unfold Bz; omega
end Go.Proofs.Ytaofjgnhapnndaa.Q
