/- Texts that the row needs: words on memory and rows, the contracts of the functions it reaches, and the plain lemmas on what they compute. -/
import Derived.Below
import Derived.Deep.Draws
import Derived.Deep.AppendLies
import Derived.Maps.AppendAt
import Derived.OwnWalk
import Derived.Laws.BytesArg
import Derived.Laws.MakeOwn
import Derived.Laws.OwnMore
import Derived.Deep.OwnRows
import Derived.Tactics
import Derived.Lib.ConvBytes
import Derived.Laws.Slices
import Derived.WalkKit
import Derived.KernelRfl
import Derived.RowKit3
import Derived.Deep.LoopGhost
import Derived.Deep.QuietTactic
import Derived.BigQuiet
import Derived.WideLaws
import Derived.Deep.DeepCutAuto
import Derived.Deep.CutBlock
import Derived.Deep.RegionHeld3
import Derived.Laws.Rows
import Derived.Lib.AppendStr
import Derived.ArgAppend
import Derived.Laws.IdiomCopy
import Derived.RowKit
import Derived.OrdersHeld
import Derived.Laws.BitsLemmas
import Derived.Laws.StructEq
import Derived.Test.YtaofjgnhapnndaaProg
import Derived.WalkLawsBesides
import Derived.Test.YtaofjgnhapnndaaRows
import Derived.ProofKit
import Derived.Test.YtaofjgnhapnndaaXGaa
import Derived.Test.YtaofjgnhapnndaaXGab
import Derived.Test.YtaofjgnhapnndaaXGac
import Derived.Test.YtaofjgnhapnndaaXGad
import Derived.Test.YtaofjgnhapnndaaXGae
import Derived.Test.YtaofjgnhapnndaaXGaf
open Go.Proofs.YtaofjgnhapnndaaFG
namespace Go.Proofs.Ytaofjgnhapnndaa.Q
open Go.RowKit Go.Proofs.YtaofjgnhapnndaaW.PrintWords Go.Proofs.YtaofjgnhapnndaaW.PrintLast Go.Proofs.YtaofjgnhapnndaaW.PrintMore
set_option linter.unusedVariables false
set_option linter.unusedSimpArgs false
mutual
def spec_ShareEnter.j0 : Nat → ByteArray → List ByteArray → Bool → List ByteArray → List (S56) → List ByteArray → List (S56) → Option (List ByteArray × (List (S56)) × Int)
 | 0, _, _, _, _, _, _, _ => none
 | k + 1, x1, x2, x25, x102000, x102001, x111000, x111001 => if x25 = true then (some (x111000, x111001, 2)) else ((spec_l1At.f k x102000 x102001 x1).bind fun t113 => (if t113 ≥ 0 then (some (x111000, x111001, 3)) else (if (x102001.length : Int) ≥ 5 then (some (x111000, x111001, 4)) else (spec_ShareEnter.l0 k x1 x2 0 x111000 x111001))))
def spec_ShareEnter.l0 : Nat → ByteArray → List ByteArray → Int → List ByteArray → List (S56) → Option (List ByteArray × (List (S56)) × Int)
 | 0, _, _, _, _, _ => none
 | k + 1, x1, x2, x9, x111000, x111001 => if x9 < (x111001.length : Int) then (if 0 ≤ x9 then (if (Op.bytesLess (((rd_T56 x111001 x9).f0).toList) x1.toList) = true then (spec_ShareEnter.l0 k x1 x2 (wrap64 (x9 + 1)) x111000 x111001) else ((some (([] : List (S56)) : List (S56))).bind fun y115 => (if x9 ≤ (x111001.length : Int) then ((some (x111001.take (x9 : Int).toNat : List (S56))).bind fun y118 => (if y115.length + y118.length < 2199023255552 then ((some (y115 ++ y118 : List (S56))).bind fun y123 => ((spec_l1Names.f x2).bind fun t126 => (if y123.length < 2199023255552 then ((some (y123 ++ [(⟨x1, ([] : List ByteArray), t126⟩ : S56)] : List (S56))).bind fun y129 => ((some (x111001.drop (x9 : Int).toNat : List (S56))).bind fun y132 => (if y129.length + y132.length < 2199023255552 then ((spec_l1Copy.f k x111000 (y129 ++ y132)).bind fun bt140 => (some (bt140.1, bt140.2, 0))) else (none)))) else (none)))) else (none))) else (none)))) else (none)) else ((some (([] : List (S56)) : List (S56))).bind fun y146 => (if 0 ≤ x9 then (if x9 ≤ (x111001.length : Int) then ((some (x111001.take (x9 : Int).toNat : List (S56))).bind fun y149 => (if y146.length + y149.length < 2199023255552 then ((some (y146 ++ y149 : List (S56))).bind fun y154 => ((spec_l1Names.f x2).bind fun t157 => (if y154.length < 2199023255552 then ((some (y154 ++ [(⟨x1, ([] : List ByteArray), t157⟩ : S56)] : List (S56))).bind fun y160 => ((some (x111001.drop (x9 : Int).toNat : List (S56))).bind fun y163 => (if y160.length + y163.length < 2199023255552 then ((spec_l1Copy.f k x111000 (y160 ++ y163)).bind fun bt171 => (some (bt171.1, bt171.2, 0))) else (none)))) else (none)))) else (none))) else (none)) else (none)))
end
def spec_ShareEnter.f (k : Nat) (l0_0 : List ByteArray) (l0_1 : List (S56)) (a1 : ByteArray) (l2 : List ByteArray) : Option (List ByteArray × (List (S56)) × Int) := (spec_ShareBookOk.f k l0_0 l0_1).bind fun t103 => (if t103 = true then ((spec_l1Copy.f k l0_0 l0_1).bind fun bt104 => ((spec_l1NameOk.f k a1).bind fun t111 => (if t111 = true then ((spec_l1NamesOk.f k l2 l0_0).bind fun t112 => (spec_ShareEnter.j0 k a1 l2 (!t112) l0_0 l0_1 bt104.1 bt104.2)) else (spec_ShareEnter.j0 k a1 l2 true l0_0 l0_1 bt104.1 bt104.2)))) else (some (([] : List ByteArray), ([] : List (S56)), 1)))
def spec_ShareEnter.T13 : Bool × List (List Nat × List Nat) := (true, [([], []), ([], []), ([1], [1]), ([], []), ([2, 3], [2, 3]), ([0, 4], [0, 4]), ([], []), ([], []), ([7, 5], [7]), ([6, 8], [6, 8]), ([9], [9]), ([5, 10, 8], [5, 10]), ([], []), ([12], [12]), ([], []), ([13, 14], [13, 14]), ([11, 15, 11], [11, 15]), ([0, 1, 2, 3, 4, 5, 6, 7, 8, 9, 10, 11, 12, 13, 14, 15, 16], []), ([17, 16, 16, 0, 1, 2, 3, 4, 5, 6, 7, 8, 9, 10, 11, 12, 13, 14, 15, 16], [16, 17])])
def spec_ShareEnter.B13 : List Nat := [0, 0, 2, 0, 14, 31, 0, 0, 191, 511, 1023, 2047, 0, 4096, 0, 28672, 65535, 131071, 262143]
theorem spec_ShareEnter.tab13 : rtab .any (opsOf Try.f59 13) = spec_ShareEnter.T13 := by kernel_rfl
theorem spec_ShareEnter.bits13 : waitsOk spec_ShareEnter.T13.2 spec_ShareEnter.B13 = true := by kernel_rfl
set_option maxHeartbeats 8000000 in
set_option maxRecDepth 100000 in
theorem spec_ShareEnter.calls (k : Nat) (A0_0 : Option Addr) (c0_0 : Nat) (l0_0 : List ByteArray) (A0_1 : Option Addr) (c0_1 : Nat) (l0_1 : List (S56)) (a1 : ByteArray) (A2 : Option Addr) (c2 : Nat) (l2 : List ByteArray) (r1 : List ByteArray) (r2 : List (S56)) (r3 : Int) (w : World) (hr0_0 : Kd.C Kd.string w A0_0 l0_0.length l0_0) (hc0_0 : l0_0.length ≤ c0_0) (hr0_1 : Kd.C k56 w A0_1 l0_1.length l0_1) (hc0_1 : l0_1.length ≤ c0_1) (hr2 : Kd.C Kd.string w A2 l2.length l2) (hc2 : l2.length ≤ c2) (h : spec_ShareEnter.f k l0_0 l0_1 a1 l2 = some (r1, r2, r3)) :
  Calls Try.prog 59 #[.agg #[.slice A0_0 l0_0.length c0_0, .slice A0_1 l0_1.length c0_1], .string a1, .slice A2 l2.length c2] w fun e w' => ∃ v0_ v1_ : Value, e = .returned (.tuple #[.agg #[v0_, v1_], .int .i64 r3]) ∧ Kd.R Kd.string 9 w' w.heap.size (fun k_ => (w.heap.size ≤ k_)) v0_ r1 ∧ Kd.N k56 56 w' w.heap.size (fun k_ => (w.heap.size ≤ k_) ∧ some k_ ≠ (v0_ : Value).ownBlock) v1_ r2 ∧ Below w.heap.size w w' := by
 have hu31 := Try.underlying31
 have hu56 := Try.underlying56
 have HR0_0 := Aside0.mk hr0_0
 have HC0_0 := Aside0.mk hc0_0
 clear hr0_0 hc0_0
 have HR0_1 := Aside0.mk hr0_1
 have HC0_1 := Aside0.mk hc0_1
 clear hr0_1 hc0_1
 have HR2 := Aside0.mk hr2
 have HC2 := Aside0.mk hc2
 clear hr2 hc2
 have HB := Aside0.mk (Below.refl w.heap.size w)
 have H : ((spec_ShareBookOk.f k l0_0 l0_1).bind fun t103 => (if t103 = true then ((spec_l1Copy.f k l0_0 l0_1).bind fun bt104 => ((spec_l1NameOk.f k a1).bind fun t111 => (if t111 = true then ((spec_l1NamesOk.f k l2 l0_0).bind fun t112 => (spec_ShareEnter.j0 k a1 l2 (!t112) l0_0 l0_1 bt104.1 bt104.2)) else (spec_ShareEnter.j0 k a1 l2 true l0_0 l0_1 bt104.1 bt104.2)))) else (some (([] : List ByteArray), ([] : List (S56)), 1)))) = some (r1, r2, r3) := h
 clear h
 replace H := Option.bind_eq_some_iff.mp H
 obtain ⟨t103, A40, H⟩ := H
 replace H : (if t103 = true then ((spec_l1Copy.f k l0_0 l0_1).bind fun bt104 => ((spec_l1NameOk.f k a1).bind fun t111 => (if t111 = true then ((spec_l1NamesOk.f k l2 l0_0).bind fun t112 => (spec_ShareEnter.j0 k a1 l2 (!t112) l0_0 l0_1 bt104.1 bt104.2)) else (spec_ShareEnter.j0 k a1 l2 true l0_0 l0_1 bt104.1 bt104.2)))) else (some (([] : List ByteArray), ([] : List (S56)), 1))) = some (r1, r2, r3) := H
 have A4 := Aside0.mk A40
 clear A40
 by_cases c5 : t103 = true
 ·subst c5
  have H1 : ((spec_l1Copy.f k l0_0 l0_1).bind fun bt104 => ((spec_l1NameOk.f k a1).bind fun t111 => (if t111 = true then ((spec_l1NamesOk.f k l2 l0_0).bind fun t112 => (spec_ShareEnter.j0 k a1 l2 (!t112) l0_0 l0_1 bt104.1 bt104.2)) else (spec_ShareEnter.j0 k a1 l2 true l0_0 l0_1 bt104.1 bt104.2)))) = some (r1, r2, r3) := by rw [if_pos rfl] at H; exact H
  clear H
  have H := H1
  clear H1
  replace H := Option.bind_eq_some_iff.mp H
  obtain ⟨⟨t104, t107⟩, A60, H⟩ := H
  replace H : ((spec_l1NameOk.f k a1).bind fun t111 => (if t111 = true then ((spec_l1NamesOk.f k l2 l0_0).bind fun t112 => (spec_ShareEnter.j0 k a1 l2 (!t112) l0_0 l0_1 t104 t107)) else (spec_ShareEnter.j0 k a1 l2 true l0_0 l0_1 t104 t107))) = some (r1, r2, r3) := H
  have A6 := Aside0.mk A60
  clear A60
  have HC7 := Aside0.mk H
  clear H
  go_enter Try.func59, Try.ntmps59
  go_upto_region 4 with (first | ((with_reducible refine gate_dst (N := 3) rfl ?_); refine box_event ?hg (N := 3) ?hd (cs := #[.slice A0_0 l0_0.length c0_0, .slice A0_1 l0_1.length c0_1]) (t := 31) ?hr ?_; (case hd => rfl); (case hg => rfl); (case hr => first | (go_simp; done) | (go_simp; rfl)); intro gb101 hg w8 hbox hb; have n0_ := Aside0.mk (below_step (pY37) hb); have n1_ := Aside0.mk (hbox); have n2_ := Aside0.mk ((pY34 : w.heap.size ≤ gb101)); have n3_ := Aside0.mk ((pY34 : w.heap.size ≤ gb101)); clear HB; have HB := n0_; have BK101 := n1_; have GW101 := n2_; have GE101 := n3_; clear n0_ n1_ n2_ n3_; clear hb hbox hg) | ((with_reducible refine gate_dst (N := 6) rfl ?_); refine box_event ?hg (N := 6) ?hd (cs := #[.slice none 0 0, .slice none 0 0]) (t := 31) ?hr ?_; (case hd => rfl); (case hg => rfl); (case hr => first | (go_simp; done) | (go_simp; rfl)); intro gb102 hg w9 hbox hb; have n0_ := Aside0.mk (blk_below (g := gb101) (o := .cells #[.slice A0_0 l0_0.length c0_0, .slice A0_1 l0_1.length c0_1] 31 (0, 0)) (pY38) hb); have n1_ := Aside0.mk (below_step (pY35) hb); have n2_ := Aside0.mk (hbox); have n3_ := Aside0.mk ((pY27 : w.heap.size ≤ gb102)); have n4_ := Aside0.mk ((pY27 : w.heap.size ≤ gb102)); have n5_ := Aside0.mk ((pY15 : gb101 ≠ gb102)); have n6_ := Aside0.mk ((pY16 : gb102 ≠ gb101)); clear BK101; clear HB; have BK101 := n0_; have HB := n1_; have BK102 := n2_; have GW102 := n3_; have GE102 := n4_; have NB101_102 := n5_; have NB102_101 := n6_; clear n0_ n1_ n2_ n3_ n4_ n5_ n6_; clear hb hbox hg; have hnb10 := NB101_102.1; have hnc10 := NB102_101.1; have hcz11_0 : w9.cell? ⟨gb101, 0, none⟩ = some (.slice A0_0 l0_0.length c0_0) := (blk_cell BK101.1 0).trans rfl; have hcz11_1 : w9.cell? ⟨gb101, 1, none⟩ = some (.slice A0_1 l0_1.length c0_1) := (blk_cell BK101.1 1).trans rfl; have hfz11_0 := blk_frozen BK101.1 0; have hfz11_1 := blk_frozen BK101.1 1) | ((with_reducible refine gate_callee (f := 22) rfl ?_); refine goesL_ (some 11) rfl rfl Try.func22 (by kernel_rfl) rfl #[.agg #[.slice A0_0 l0_0.length c0_0, .slice A0_1 l0_1.length c0_1]] rfl (pY36) ?_; (with_reducible refine (spec_ShareBookOk.calls k _ _ l0_0 _ _ l0_1 true _ ?side1 ?side2 ?side3 ?side4 A4.out).mono ?_); (case side1 => exact pC (Kd.C_below HR0_0.1 HB.1)); (case side2 => exact HC0_0.1); (case side3 => exact pC (Kd.C_below HR0_1.1 HB.1)); (case side4 => exact HC0_1.1); rintro e w12 ⟨rfl, hb⟩; refine ⟨_, rfl, ?_⟩; have n0_ := Aside0.mk (blk_below (g := gb101) (o := .cells #[.slice A0_0 l0_0.length c0_0, .slice A0_1 l0_1.length c0_1] 31 (0, 0)) (pY38) hb); have n1_ := Aside0.mk (blk_below (g := gb102) (o := .cells #[.slice none 0 0, .slice none 0 0] 31 (0, 0)) (pY39) hb); have n2_ := Aside0.mk (below_step (pY28) hb); clear BK101; clear BK102; clear HB; have BK101 := n0_; have BK102 := n1_; have HB := n2_; clear n0_ n1_ n2_; (try clear hb); (try clear hb2); (try clear hk); (try clear hi); have hcz13_0 : w12.cell? ⟨gb101, 0, none⟩ = some (.slice A0_0 l0_0.length c0_0) := (blk_cell BK101.1 0).trans rfl; have hcz13_1 : w12.cell? ⟨gb101, 1, none⟩ = some (.slice A0_1 l0_1.length c0_1) := (blk_cell BK101.1 1).trans rfl; have hfz13_0 := blk_frozen BK101.1 0; have hfz13_1 := blk_frozen BK101.1 1) | ((with_reducible refine gate_callee (f := 89) rfl ?_); refine goesL_ (some 15) rfl rfl Try.func89 (by kernel_rfl) rfl #[.agg #[.slice A0_0 l0_0.length c0_0, .slice A0_1 l0_1.length c0_1]] rfl (pY36) ?_; (with_reducible refine (spec_l1Copy.calls k _ _ l0_0 _ _ l0_1 t104 t107 _ ?side1 ?side2 ?side3 ?side4 A6.out).mono ?_); (case side1 => exact pC (Kd.C_below HR0_0.1 HB.1)); (case side2 => exact HC0_0.1); (case side3 => exact pC (Kd.C_below HR0_1.1 HB.1)); (case side4 => exact HC0_1.1); rintro e w14 ⟨v105, v108, rfl, ho0, ho1, hb⟩; refine ⟨_, rfl, ?_⟩; have n0_ := Aside0.mk (Kd.R_lower (Kd.R_newM (M := fun k_ => (w.heap.size ≤ k_)) ho0 (below_size (pY28)) (fun k_ h_ => h_)) (below_size (pY28))); have n1_ := Aside0.mk (Kd.N_lower (Kd.N_mono (ok' := fun k_ => (w.heap.size ≤ k_) ∧ some k_ ≠ (v105 : Value).ownBlock ∧ k_ ≠ gb101 ∧ k_ ≠ gb102) (Kd.S_N (Kd.S_bound ho1)) (fun k_ hk_ => ⟨(Nat.le_trans (below_size (pY28)) hk_.2.1), hk_.1, (Kd.freshB (g := gb101) (o := .cells #[.slice A0_0 l0_0.length c0_0, .slice A0_1 l0_1.length c0_1] 31 (0, 0)) (pY38) k_ hk_.2.1), (Kd.freshB (g := gb102) (o := .cells #[.slice none 0 0, .slice none 0 0] 31 (0, 0)) (pY39) k_ hk_.2.1)⟩)) (below_size (pY28))); have n2_ := Aside0.mk (blk_below (g := gb101) (o := .cells #[.slice A0_0 l0_0.length c0_0, .slice A0_1 l0_1.length c0_1] 31 (0, 0)) (pY38) hb); have n3_ := Aside0.mk (blk_below (g := gb102) (o := .cells #[.slice none 0 0, .slice none 0 0] 31 (0, 0)) (pY39) hb); have n4_ := Aside0.mk (below_step (pY28) hb); clear BK101; clear BK102; clear HB; have HO106 := n0_; have HO109 := n1_; have BK101 := n2_; have BK102 := n3_; have HB := n4_; clear n0_ n1_ n2_ n3_ n4_; (try clear hb); (try clear hb2); (try clear hk); (try clear hi); (try clear ho0); (try clear ho1)) | ((with_reducible refine gate_dst (N := 8) rfl ?_); refine box_event ?hg (N := 8) ?hd (cs := #[.slice none 0 0, .slice none 0 0]) (t := 31) ?hr ?_; (case hd => rfl); (case hg => rfl); (case hr => first | (go_simp; done) | (go_simp; rfl)); intro gb110 hg w15 hbox hb; have n0_ := Aside0.mk (Kd.R_below (by (with_reducible repeat (first | apply Kd.R_alloc | apply Kd.R_drewN | apply Kd.R_drew)); exact HO106.1) hb); have n1_ := Aside0.mk (Kd.N_below (Kd.N_elderB (by (with_reducible repeat (first | apply Kd.N_alloc | apply Kd.N_drewN | apply Kd.N_drew)); exact HO109.1) gb110 (Nat.le_of_eq hg.symm)) hb); have n2_ := Aside0.mk (blk_below (g := gb101) (o := .cells #[.slice A0_0 l0_0.length c0_0, .slice A0_1 l0_1.length c0_1] 31 (0, 0)) (pY38) hb); have n3_ := Aside0.mk (blk_below (g := gb102) (o := .cells #[.slice none 0 0, .slice none 0 0] 31 (0, 0)) (pY39) hb); have n4_ := Aside0.mk (below_step (pY28) hb); have n5_ := Aside0.mk (hbox); have n6_ := Aside0.mk ((pY21 : w.heap.size ≤ gb110)); have n7_ := Aside0.mk ((pY21 : w.heap.size ≤ gb110)); have n8_ := Aside0.mk ((pY15 : gb101 ≠ gb110)); have n9_ := Aside0.mk ((pY16 : gb110 ≠ gb101)); have n10_ := Aside0.mk ((pY19 : gb102 ≠ gb110)); have n11_ := Aside0.mk ((pY20 : gb110 ≠ gb102)); clear HO106; clear HO109; clear BK101; clear BK102; clear HB; have HO106 := n0_; have HO109 := n1_; have BK101 := n2_; have BK102 := n3_; have HB := n4_; have BK110 := n5_; have GW110 := n6_; have GE110 := n7_; have NB101_110 := n8_; have NB110_101 := n9_; have NB102_110 := n10_; have NB110_102 := n11_; clear n0_ n1_ n2_ n3_ n4_ n5_ n6_ n7_ n8_ n9_ n10_ n11_; clear hb hbox hg; obtain ⟨Ao16, co16, eo16⟩ := Kd.R_slice HO106.1; subst eo16; have hnb17 := NB110_101.1; have hnc17 := NB101_110.1; have hnb18 := NB110_102.1; have hnc18 := NB102_110.1; have hcz19_0 : w15.cell? ⟨gb110, 0, none⟩ = some (.slice none 0 0) := (blk_cell BK110.1 0).trans rfl; have hcz19_1 : w15.cell? ⟨gb110, 1, none⟩ = some (.slice none 0 0) := (blk_cell BK110.1 1).trans rfl; have hfz19_0 := blk_frozen BK110.1 0; have hfz19_1 := blk_frozen BK110.1 1; obtain ⟨Ao20, co20, eo20⟩ := Kd.N_slice HO109.1; subst eo20))
  (try simp only [Act.put, List.setIfInBounds_toArray, List.set_cons_zero, List.set_cons_succ])
  go_cut [25] (fun v25 wc => ∃ (kq : Nat) (x25_6 : Bool), v25 = .bool x25_6 ∧ Aside0 (spec_ShareEnter.j0 kq a1 l2 x25_6 l0_0 l0_1 t104 t107 = some (r1, r2, r3)) ∧ Aside0 (kq ≤ k) ∧ Aside0 (Kd.R Kd.string 9 wc w.heap.size (fun k_ => (w.heap.size ≤ k_)) (.slice Ao16 t104.length co16) t104) ∧ Aside0 (Kd.N k56 56 wc w.heap.size (fun k_ => (w.heap.size ≤ k_) ∧ some k_ ≠ ((.slice Ao16 t104.length co16) : Value).ownBlock ∧ k_ ≠ gb101 ∧ k_ ≠ gb102 ∧ k_ ≠ gb110) (.slice Ao20 t107.length co20) t107) ∧ Aside0 (wc.heap[gb101]? = some (.cells #[(.slice A0_0 l0_0.length c0_0), (.slice A0_1 l0_1.length c0_1)] 31 (0, 0))) ∧ Aside0 (wc.heap[gb102]? = some (.cells #[(.slice none 0 0), (.slice none 0 0)] 31 (0, 0))) ∧ Aside0 (wc.heap[gb110]? = some (.cells #[(.slice Ao16 t104.length co16), (.slice Ao20 t107.length co20)] 31 (0, 0))) ∧ Aside0 (Below w.heap.size w wc))
  case first =>
   have H := HC7.1
   clear HC7
   replace H := Option.bind_eq_some_iff.mp H
   obtain ⟨t111, A210, H⟩ := H
   replace H : (if t111 = true then ((spec_l1NamesOk.f k l2 l0_0).bind fun t112 => (spec_ShareEnter.j0 k a1 l2 (!t112) l0_0 l0_1 t104 t107)) else (spec_ShareEnter.j0 k a1 l2 true l0_0 l0_1 t104 t107)) = some (r1, r2, r3) := H
   have A21 := Aside0.mk A210
   clear A210
   by_cases c22 : t111 = true
   ·subst c22
    have H1 : ((spec_l1NamesOk.f k l2 l0_0).bind fun t112 => (spec_ShareEnter.j0 k a1 l2 (!t112) l0_0 l0_1 t104 t107)) = some (r1, r2, r3) := by rw [if_pos rfl] at H; exact H
    clear H
    have H := H1
    clear H1
    replace H := Option.bind_eq_some_iff.mp H
    obtain ⟨t112, A230, H⟩ := H
    replace H : (spec_ShareEnter.j0 k a1 l2 (!t112) l0_0 l0_1 t104 t107) = some (r1, r2, r3) := H
    have A23 := Aside0.mk A230
    clear A230
    have H' := Aside0.mk H
    clear H
    go_wp2_with (first | ((with_reducible refine gate_callee (f := 70) rfl ?_); refine goesL_ (some 17) rfl rfl Try.func70 (by kernel_rfl) rfl #[.string a1] rfl (pY36) ?_; (with_reducible refine (spec_l1NameOk.calls k a1 true _ A21.out).mono ?_); rintro e w' ⟨rfl, ⟨nd, rfl⟩⟩; refine ⟨_, rfl, ?_⟩; have hnb24 := NB101_102.1; have hnc24 := NB102_101.1; have hnb25 := NB101_110.1; have hnc25 := NB110_101.1; have hcz26_0 : w15.cell? ⟨gb101, 0, none⟩ = some (.slice A0_0 l0_0.length c0_0) := (blk_cell BK101.1 0).trans rfl; have hcz26_1 : w15.cell? ⟨gb101, 1, none⟩ = some (.slice A0_1 l0_1.length c0_1) := (blk_cell BK101.1 1).trans rfl; have hfz26_0 := blk_frozen BK101.1 0; have hfz26_1 := blk_frozen BK101.1 1) | (go_at_call 71; (with_reducible refine (spec_l1NamesOk.calls k _ _ l2 _ _ l0_0 t112 _ ?side1 ?side2 ?side3 ?side4 A23.out).mono ?_); (case side1 => exact Kd.C_below HR2.1 (pY25)); (case side2 => exact HC2.1); (case side3 => exact Kd.C_below HR0_0.1 (pY25)); (case side4 => exact HC0_0.1); rintro e w' ⟨rfl, ⟨nd, rfl⟩⟩))
    go_meet
    case rel => exact ⟨_, (!t112), (pY51), H', ⟨by first | omega | exact Nat.le_refl _⟩, ⟨by (with_reducible repeat (first | apply Kd.R_alloc | apply Kd.R_drewN | apply Kd.R_drew)); exact Kd.R_mono (Kd.R_far (p := ⟨gb110, 1, none⟩) (Kd.R_far (p := ⟨gb110, 0, none⟩) (Kd.R_types HO106.1 BK110.1 (by decide)) (fun _ hk => hk.2) (.slice Ao16 t104.length co16)) (fun _ hk => hk.2) (.slice Ao20 t107.length co20)) (fun _ hk => hk.1.1)⟩, ⟨by (with_reducible repeat (first | apply Kd.N_alloc | apply Kd.N_drewN | apply Kd.N_drew)); exact Kd.N_mono (Kd.N_far (p := ⟨gb110, 1, none⟩) (Kd.N_far (p := ⟨gb110, 0, none⟩) (Kd.N_mono HO109.1 (fun k_ hk => (⟨hk, hk.2⟩ : _ ∧ k_ ≠ gb110))) (fun _ hk => hk.2) (.slice Ao16 t104.length co16)) (fun _ hk => hk.2) (.slice Ao20 t107.length co20)) (fun _ hk => ⟨hk.1.1.1, ⟨hk.1.1.2.1, ⟨hk.1.1.2.2.1, ⟨hk.1.1.2.2.2, hk.1.2⟩⟩⟩⟩)⟩, ⟨by (with_reducible repeat (first | refine blk_drewN ?_ _ | refine blk_drew ?_ | refine blk_alloc ?_ _)); refine blk_far ?_ NB101_110.1 _; (with_reducible repeat (first | refine blk_drewN ?_ _ | refine blk_drew ?_ | refine blk_alloc ?_ _)); refine blk_far ?_ NB101_110.1 _; (with_reducible repeat (first | refine blk_drewN ?_ _ | refine blk_drew ?_ | refine blk_alloc ?_ _)); exact BK101.1⟩, ⟨by (with_reducible repeat (first | refine blk_drewN ?_ _ | refine blk_drew ?_ | refine blk_alloc ?_ _)); refine blk_far ?_ NB102_110.1 _; (with_reducible repeat (first | refine blk_drewN ?_ _ | refine blk_drew ?_ | refine blk_alloc ?_ _)); refine blk_far ?_ NB102_110.1 _; (with_reducible repeat (first | refine blk_drewN ?_ _ | refine blk_drew ?_ | refine blk_alloc ?_ _)); exact BK102.1⟩, ⟨by (with_reducible repeat (first | refine blk_drewN ?_ _ | refine blk_drew ?_ | refine blk_alloc ?_ _)); refine blk_put (cs := #[.slice Ao16 t104.length co16, .slice none 0 0]) ?_ 1 _ rfl; (with_reducible repeat (first | refine blk_drewN ?_ _ | refine blk_drew ?_ | refine blk_alloc ?_ _)); refine blk_put (cs := #[.slice none 0 0, .slice none 0 0]) ?_ 0 _ rfl; (with_reducible repeat (first | refine blk_drewN ?_ _ | refine blk_drew ?_ | refine blk_alloc ?_ _)); exact BK110.1⟩, ⟨pY25⟩⟩
   ·replace c22 := Bool.eq_false_iff.mpr c22
    subst c22
    have H1 : (spec_ShareEnter.j0 k a1 l2 true l0_0 l0_1 t104 t107) = some (r1, r2, r3) := by rw [if_neg (show ¬ (false = true) by decide)] at H; exact H
    clear H
    have H := H1
    clear H1
    have H' := Aside0.mk H
    clear H
    go_wp2_with (first | ((with_reducible refine gate_callee (f := 70) rfl ?_); refine goesL_ (some 17) rfl rfl Try.func70 (by kernel_rfl) rfl #[.string a1] rfl (pY36) ?_; (with_reducible refine (spec_l1NameOk.calls k a1 false _ A21.out).mono ?_); rintro e w' ⟨rfl, ⟨nd, rfl⟩⟩; refine ⟨_, rfl, ?_⟩))
    go_meet
    case rel => exact ⟨_, (true), (pY51), H', ⟨by first | omega | exact Nat.le_refl _⟩, ⟨by (with_reducible repeat (first | apply Kd.R_alloc | apply Kd.R_drewN | apply Kd.R_drew)); exact Kd.R_mono (Kd.R_far (p := ⟨gb110, 1, none⟩) (Kd.R_far (p := ⟨gb110, 0, none⟩) (Kd.R_types HO106.1 BK110.1 (by decide)) (fun _ hk => hk.2) (.slice Ao16 t104.length co16)) (fun _ hk => hk.2) (.slice Ao20 t107.length co20)) (fun _ hk => hk.1.1)⟩, ⟨by (with_reducible repeat (first | apply Kd.N_alloc | apply Kd.N_drewN | apply Kd.N_drew)); exact Kd.N_mono (Kd.N_far (p := ⟨gb110, 1, none⟩) (Kd.N_far (p := ⟨gb110, 0, none⟩) (Kd.N_mono HO109.1 (fun k_ hk => (⟨hk, hk.2⟩ : _ ∧ k_ ≠ gb110))) (fun _ hk => hk.2) (.slice Ao16 t104.length co16)) (fun _ hk => hk.2) (.slice Ao20 t107.length co20)) (fun _ hk => ⟨hk.1.1.1, ⟨hk.1.1.2.1, ⟨hk.1.1.2.2.1, ⟨hk.1.1.2.2.2, hk.1.2⟩⟩⟩⟩)⟩, ⟨by (with_reducible repeat (first | refine blk_drewN ?_ _ | refine blk_drew ?_ | refine blk_alloc ?_ _)); refine blk_far ?_ NB101_110.1 _; (with_reducible repeat (first | refine blk_drewN ?_ _ | refine blk_drew ?_ | refine blk_alloc ?_ _)); refine blk_far ?_ NB101_110.1 _; (with_reducible repeat (first | refine blk_drewN ?_ _ | refine blk_drew ?_ | refine blk_alloc ?_ _)); exact BK101.1⟩, ⟨by (with_reducible repeat (first | refine blk_drewN ?_ _ | refine blk_drew ?_ | refine blk_alloc ?_ _)); refine blk_far ?_ NB102_110.1 _; (with_reducible repeat (first | refine blk_drewN ?_ _ | refine blk_drew ?_ | refine blk_alloc ?_ _)); refine blk_far ?_ NB102_110.1 _; (with_reducible repeat (first | refine blk_drewN ?_ _ | refine blk_drew ?_ | refine blk_alloc ?_ _)); exact BK102.1⟩, ⟨by (with_reducible repeat (first | refine blk_drewN ?_ _ | refine blk_drew ?_ | refine blk_alloc ?_ _)); refine blk_put (cs := #[.slice Ao16 t104.length co16, .slice none 0 0]) ?_ 1 _ rfl; (with_reducible repeat (first | refine blk_drewN ?_ _ | refine blk_drew ?_ | refine blk_alloc ?_ _)); refine blk_put (cs := #[.slice none 0 0, .slice none 0 0]) ?_ 0 _ rfl; (with_reducible repeat (first | refine blk_drewN ?_ _ | refine blk_drew ?_ | refine blk_alloc ?_ _)); exact BK110.1⟩, ⟨pY25⟩⟩
  case rest =>
   clear HC7
   try clear c1
   try clear c2
   try clear p2
   try clear c5
   try clear c7
   try clear c8
   try clear c10
   try clear c17
   try clear c18
   try clear c22
   try clear c24
   try clear c25
   try clear hcz11_0
   try clear hcz11_1
   try clear hcz13_0
   try clear hcz13_1
   try clear hcz19_0
   try clear hcz19_1
   try clear hcz26_0
   try clear hcz26_1
   try clear hfz11_0
   try clear hfz11_1
   try clear hfz13_0
   try clear hfz13_1
   try clear hfz19_0
   try clear hfz19_1
   try clear hfz26_0
   try clear hfz26_1
   obtain ⟨kq, x25_6, rfl, HA, HJ6, HO_111000, HO_111001, BK101, BK102, BK110, HB⟩ := hcut
   cases kq with
   | zero => exact absurd HA.out (by simp [spec_ShareEnter.j0])
   | succ kj6 =>
    have H := HA.out
    clear HA
    simp only [spec_ShareEnter.j0] at H
    by_cases c27 : x25_6 = true
    ·subst c27
     have H1 : (some (t104, t107, 2)) = some (r1, r2, r3) := by rw [if_pos rfl] at H; exact H
     clear H
     have H := H1
     clear H1
     simp only [Option.some.injEq, Prod.mk.injEq] at H
     obtain ⟨rfl, rfl, rfl⟩ := H
     have hnb28 := NB110_101.1
     have hnc28 := NB101_110.1
     have hnb29 := NB110_102.1
     have hnc29 := NB102_110.1
     have hcz30_0 : wc.cell? ⟨gb110, 0, none⟩ = some (.slice Ao16 t104.length co16) := (blk_cell BK110.1 0).trans rfl
     have hcz30_1 : wc.cell? ⟨gb110, 1, none⟩ = some (.slice Ao20 t107.length co20) := (blk_cell BK110.1 1).trans rfl
     have hfz30_0 := blk_frozen BK110.1 0
     have hfz30_1 := blk_frozen BK110.1 1
     have hnb31 := NB102_101.1
     have hnc31 := NB101_102.1
     have hcz32_0 : wc.cell? ⟨gb102, 0, none⟩ = some (.slice none 0 0) := (blk_cell BK102.1 0).trans rfl
     have hcz32_1 : wc.cell? ⟨gb102, 1, none⟩ = some (.slice none 0 0) := (blk_cell BK102.1 1).trans rfl
     have hfz32_0 := blk_frozen BK102.1 0
     have hfz32_1 := blk_frozen BK102.1 1
     go_wp2
     refine bodyPost_ret (results_ct rfl _ _ gb102 31 #[.slice Ao16 t104.length co16, .slice Ao20 t107.length co20] (0, 0) _ rfl (pY4) Try.underlying31 rfl (by kernel_rfl)) rfl ?_
     exact ⟨_, _, by first | rfl | (simp [errW_none, errW_some] <;> rfl) | (simp [*, errW_none, errW_some] <;> rfl), by (with_reducible repeat (first | apply Kd.R_alloc | apply Kd.R_drewN | apply Kd.R_drew)); exact Kd.R_mono (Kd.R_far (p := ⟨gb102, 1, none⟩) (Kd.R_far (p := ⟨gb102, 0, none⟩) (Kd.R_types HO_111000.1 BK102.1 (by decide)) (fun _ hk => hk.2) (.slice Ao16 t104.length co16)) (fun _ hk => hk.2) (.slice Ao20 t107.length co20)) (fun _ hk => hk.1), by (with_reducible repeat (first | apply Kd.N_alloc | apply Kd.N_drewN | apply Kd.N_drew)); exact Kd.N_mono (Kd.N_far (p := ⟨gb102, 1, none⟩) (Kd.N_far (p := ⟨gb102, 0, none⟩) (Kd.N_mono HO_111001.1 (fun k_ hk => (⟨hk, hk.2.2.2.1⟩ : _ ∧ k_ ≠ gb102))) (fun _ hk => hk.2) (.slice Ao16 t104.length co16)) (fun _ hk => hk.2) (.slice Ao20 t107.length co20)) (fun _ hk => ⟨hk.1.1, hk.1.2.1⟩), pY25⟩
    ·replace c27 := Bool.eq_false_iff.mpr c27
     subst c27
     have H1 : ((spec_l1At.f kj6 l0_0 l0_1 a1).bind fun t113 => (if t113 ≥ 0 then (some (t104, t107, 3)) else (if (l0_1.length : Int) ≥ 5 then (some (t104, t107, 4)) else (spec_ShareEnter.l0 kj6 a1 l2 0 t104 t107)))) = some (r1, r2, r3) := by rw [if_neg (show ¬ (false = true) by decide)] at H; exact H
     clear H
     have H := H1
     clear H1
     replace H := Option.bind_eq_some_iff.mp H
     obtain ⟨t113, A330, H⟩ := H
     replace H : (if t113 ≥ 0 then (some (t104, t107, 3)) else (if (l0_1.length : Int) ≥ 5 then (some (t104, t107, 4)) else (spec_ShareEnter.l0 kj6 a1 l2 0 t104 t107))) = some (r1, r2, r3) := H
     have A33 := Aside0.mk A330
     clear A330
     by_cases c34 : t113 ≥ 0
     ·rw [if_pos c34] at H
      have c34b0 : decide (0 ≤ t113) = true := decide_eq_true c34
      clear c34
      simp only [Option.some.injEq, Prod.mk.injEq] at H
      obtain ⟨rfl, rfl, rfl⟩ := H
      have hnb35 := NB101_102.1
      have hnc35 := NB102_101.1
      have hnb36 := NB101_110.1
      have hnc36 := NB110_101.1
      have hcz37_0 : wc.cell? ⟨gb101, 0, none⟩ = some (.slice A0_0 l0_0.length c0_0) := (blk_cell BK101.1 0).trans rfl
      have hcz37_1 : wc.cell? ⟨gb101, 1, none⟩ = some (.slice A0_1 l0_1.length c0_1) := (blk_cell BK101.1 1).trans rfl
      have hfz37_0 := blk_frozen BK101.1 0
      have hfz37_1 := blk_frozen BK101.1 1
      go_wp2_with (first | ((with_reducible refine gate_callee (f := 82) rfl ?_); refine goesL_ (some 29) rfl rfl Try.func82 (by kernel_rfl) rfl #[.agg #[.slice A0_0 l0_0.length c0_0, .slice A0_1 l0_1.length c0_1], .string a1] rfl (pY36) ?_; (with_reducible refine (spec_l1At.calls kj6 _ _ l0_0 _ _ l0_1 a1 t113 _ ?side1 ?side2 ?side3 ?side4 A33.out).mono ?_); (case side1 => exact pC (Kd.C_below HR0_0.1 HB.1)); (case side2 => exact HC0_0.1); (case side3 => exact pC (Kd.C_below HR0_1.1 HB.1)); (case side4 => exact HC0_1.1); rintro e w38 ⟨rfl, hb⟩; refine ⟨_, rfl, ?_⟩; have n0_ := Aside0.mk (Kd.R_below (pY45) hb); have n1_ := Aside0.mk (Kd.N_below (pY46) hb); have n2_ := Aside0.mk (blk_below (g := gb101) (o := .cells #[.slice A0_0 l0_0.length c0_0, .slice A0_1 l0_1.length c0_1] 31 (0, 0)) (pY38) hb); have n3_ := Aside0.mk (blk_below (g := gb102) (o := .cells #[.slice none 0 0, .slice none 0 0] 31 (0, 0)) (pY39) hb); have n4_ := Aside0.mk (blk_below (g := gb110) (o := .cells #[.slice Ao16 t104.length co16, .slice Ao20 t107.length co20] 31 (0, 0)) (pY41) hb); have n5_ := Aside0.mk (below_step (pY25) hb); clear HO_111000; clear HO_111001; clear BK101; clear BK102; clear BK110; clear HB; have HO_111000 := n0_; have HO_111001 := n1_; have BK101 := n2_; have BK102 := n3_; have BK110 := n4_; have HB := n5_; clear n0_ n1_ n2_ n3_ n4_ n5_; (try clear hb); (try clear hb2); (try clear hk); (try clear hi); have hnb39 := NB110_102.1; have hnc39 := NB102_110.1; have hcz40_0 : w38.cell? ⟨gb110, 0, none⟩ = some (.slice Ao16 t104.length co16) := (blk_cell BK110.1 0).trans rfl; have hcz40_1 : w38.cell? ⟨gb110, 1, none⟩ = some (.slice Ao20 t107.length co20) := (blk_cell BK110.1 1).trans rfl; have hfz40_0 := blk_frozen BK110.1 0; have hfz40_1 := blk_frozen BK110.1 1; have hcz41_0 : w38.cell? ⟨gb102, 0, none⟩ = some (.slice none 0 0) := (blk_cell BK102.1 0).trans rfl; have hcz41_1 : w38.cell? ⟨gb102, 1, none⟩ = some (.slice none 0 0) := (blk_cell BK102.1 1).trans rfl; have hfz41_0 := blk_frozen BK102.1 0; have hfz41_1 := blk_frozen BK102.1 1))
      refine bodyPost_ret (results_ct rfl _ _ gb102 31 #[.slice Ao16 t104.length co16, .slice Ao20 t107.length co20] (0, 0) _ rfl (pY4) Try.underlying31 rfl (by kernel_rfl)) rfl ?_
      exact ⟨_, _, by first | rfl | (simp [errW_none, errW_some] <;> rfl) | (simp [*, errW_none, errW_some] <;> rfl), by (with_reducible repeat (first | apply Kd.R_alloc | apply Kd.R_drewN | apply Kd.R_drew)); exact Kd.R_mono (Kd.R_far (p := ⟨gb102, 1, none⟩) (Kd.R_far (p := ⟨gb102, 0, none⟩) (Kd.R_types HO_111000.1 BK102.1 (by decide)) (fun _ hk => hk.2) (.slice Ao16 t104.length co16)) (fun _ hk => hk.2) (.slice Ao20 t107.length co20)) (fun _ hk => hk.1), by (with_reducible repeat (first | apply Kd.N_alloc | apply Kd.N_drewN | apply Kd.N_drew)); exact Kd.N_mono (Kd.N_far (p := ⟨gb102, 1, none⟩) (Kd.N_far (p := ⟨gb102, 0, none⟩) (Kd.N_mono HO_111001.1 (fun k_ hk => (⟨hk, hk.2.2.2.1⟩ : _ ∧ k_ ≠ gb102))) (fun _ hk => hk.2) (.slice Ao16 t104.length co16)) (fun _ hk => hk.2) (.slice Ao20 t107.length co20)) (fun _ hk => ⟨hk.1.1, hk.1.2.1⟩), pY25⟩
     ·rw [if_neg c34] at H
      have c34b0 : decide (0 ≤ t113) = false := decide_eq_false c34
      clear c34
      by_cases c42 : (l0_1.length : Int) ≥ 5
      ·rw [if_pos c42] at H
       have c42b0 : decide (5 ≤ (l0_1.length : Int)) = true := decide_eq_true c42
       have c42b1 : decide (5 ≤ l0_1.length) = true := decide_eq_true (by omega)
       clear c42
       simp only [Option.some.injEq, Prod.mk.injEq] at H
       obtain ⟨rfl, rfl, rfl⟩ := H
       have hnb43 := NB101_102.1
       have hnc43 := NB102_101.1
       have hnb44 := NB101_110.1
       have hnc44 := NB110_101.1
       have hcz45_0 : wc.cell? ⟨gb101, 0, none⟩ = some (.slice A0_0 l0_0.length c0_0) := (blk_cell BK101.1 0).trans rfl
       have hcz45_1 : wc.cell? ⟨gb101, 1, none⟩ = some (.slice A0_1 l0_1.length c0_1) := (blk_cell BK101.1 1).trans rfl
       have hfz45_0 := blk_frozen BK101.1 0
       have hfz45_1 := blk_frozen BK101.1 1
       go_wp2_with (first | ((with_reducible refine gate_callee (f := 82) rfl ?_); refine goesL_ (some 29) rfl rfl Try.func82 (by kernel_rfl) rfl #[.agg #[.slice A0_0 l0_0.length c0_0, .slice A0_1 l0_1.length c0_1], .string a1] rfl (pY36) ?_; (with_reducible refine (spec_l1At.calls kj6 _ _ l0_0 _ _ l0_1 a1 t113 _ ?side1 ?side2 ?side3 ?side4 A33.out).mono ?_); (case side1 => exact pC (Kd.C_below HR0_0.1 HB.1)); (case side2 => exact HC0_0.1); (case side3 => exact pC (Kd.C_below HR0_1.1 HB.1)); (case side4 => exact HC0_1.1); rintro e w46 ⟨rfl, hb⟩; refine ⟨_, rfl, ?_⟩; have n0_ := Aside0.mk (Kd.R_below (pY45) hb); have n1_ := Aside0.mk (Kd.N_below (pY46) hb); have n2_ := Aside0.mk (blk_below (g := gb101) (o := .cells #[.slice A0_0 l0_0.length c0_0, .slice A0_1 l0_1.length c0_1] 31 (0, 0)) (pY38) hb); have n3_ := Aside0.mk (blk_below (g := gb102) (o := .cells #[.slice none 0 0, .slice none 0 0] 31 (0, 0)) (pY39) hb); have n4_ := Aside0.mk (blk_below (g := gb110) (o := .cells #[.slice Ao16 t104.length co16, .slice Ao20 t107.length co20] 31 (0, 0)) (pY41) hb); have n5_ := Aside0.mk (below_step (pY25) hb); clear HO_111000; clear HO_111001; clear BK101; clear BK102; clear BK110; clear HB; have HO_111000 := n0_; have HO_111001 := n1_; have BK101 := n2_; have BK102 := n3_; have BK110 := n4_; have HB := n5_; clear n0_ n1_ n2_ n3_ n4_ n5_; (try clear hb); (try clear hb2); (try clear hk); (try clear hi); have hcz47_0 : w46.cell? ⟨gb101, 0, none⟩ = some (.slice A0_0 l0_0.length c0_0) := (blk_cell BK101.1 0).trans rfl; have hcz47_1 : w46.cell? ⟨gb101, 1, none⟩ = some (.slice A0_1 l0_1.length c0_1) := (blk_cell BK101.1 1).trans rfl; have hfz47_0 := blk_frozen BK101.1 0; have hfz47_1 := blk_frozen BK101.1 1; have hnb48 := NB110_102.1; have hnc48 := NB102_110.1; have hcz49_0 : w46.cell? ⟨gb110, 0, none⟩ = some (.slice Ao16 t104.length co16) := (blk_cell BK110.1 0).trans rfl; have hcz49_1 : w46.cell? ⟨gb110, 1, none⟩ = some (.slice Ao20 t107.length co20) := (blk_cell BK110.1 1).trans rfl; have hfz49_0 := blk_frozen BK110.1 0; have hfz49_1 := blk_frozen BK110.1 1; have hcz50_0 : w46.cell? ⟨gb102, 0, none⟩ = some (.slice none 0 0) := (blk_cell BK102.1 0).trans rfl; have hcz50_1 : w46.cell? ⟨gb102, 1, none⟩ = some (.slice none 0 0) := (blk_cell BK102.1 1).trans rfl; have hfz50_0 := blk_frozen BK102.1 0; have hfz50_1 := blk_frozen BK102.1 1))
       refine bodyPost_ret (results_ct rfl _ _ gb102 31 #[.slice Ao16 t104.length co16, .slice Ao20 t107.length co20] (0, 0) _ rfl (pY4) Try.underlying31 rfl (by kernel_rfl)) rfl ?_
       exact ⟨_, _, by first | rfl | (simp [errW_none, errW_some] <;> rfl) | (simp [*, errW_none, errW_some] <;> rfl), by (with_reducible repeat (first | apply Kd.R_alloc | apply Kd.R_drewN | apply Kd.R_drew)); exact Kd.R_mono (Kd.R_far (p := ⟨gb102, 1, none⟩) (Kd.R_far (p := ⟨gb102, 0, none⟩) (Kd.R_types HO_111000.1 BK102.1 (by decide)) (fun _ hk => hk.2) (.slice Ao16 t104.length co16)) (fun _ hk => hk.2) (.slice Ao20 t107.length co20)) (fun _ hk => hk.1), by (with_reducible repeat (first | apply Kd.N_alloc | apply Kd.N_drewN | apply Kd.N_drew)); exact Kd.N_mono (Kd.N_far (p := ⟨gb102, 1, none⟩) (Kd.N_far (p := ⟨gb102, 0, none⟩) (Kd.N_mono HO_111001.1 (fun k_ hk => (⟨hk, hk.2.2.2.1⟩ : _ ∧ k_ ≠ gb102))) (fun _ hk => hk.2) (.slice Ao16 t104.length co16)) (fun _ hk => hk.2) (.slice Ao20 t107.length co20)) (fun _ hk => ⟨hk.1.1, hk.1.2.1⟩), pY25⟩
      ·rw [if_neg c42] at H
       have c42b0 : decide (5 ≤ (l0_1.length : Int)) = false := decide_eq_false c42
       have c42b1 : decide (5 ≤ l0_1.length) = false := decide_eq_false (by omega)
       clear c42
       have H' := Aside0.mk H
       clear H
       have hnb51 := NB101_102.1
       have hnc51 := NB102_101.1
       have hnb52 := NB101_110.1
       have hnc52 := NB110_101.1
       have hcz53_0 : wc.cell? ⟨gb101, 0, none⟩ = some (.slice A0_0 l0_0.length c0_0) := (blk_cell BK101.1 0).trans rfl
       have hcz53_1 : wc.cell? ⟨gb101, 1, none⟩ = some (.slice A0_1 l0_1.length c0_1) := (blk_cell BK101.1 1).trans rfl
       have hfz53_0 := blk_frozen BK101.1 0
       have hfz53_1 := blk_frozen BK101.1 1
       go_wp2_with (first | ((with_reducible refine gate_callee (f := 82) rfl ?_); refine goesL_ (some 29) rfl rfl Try.func82 (by kernel_rfl) rfl #[.agg #[.slice A0_0 l0_0.length c0_0, .slice A0_1 l0_1.length c0_1], .string a1] rfl (pY36) ?_; (with_reducible refine (spec_l1At.calls kj6 _ _ l0_0 _ _ l0_1 a1 t113 _ ?side1 ?side2 ?side3 ?side4 A33.out).mono ?_); (case side1 => exact pC (Kd.C_below HR0_0.1 HB.1)); (case side2 => exact HC0_0.1); (case side3 => exact pC (Kd.C_below HR0_1.1 HB.1)); (case side4 => exact HC0_1.1); rintro e w54 ⟨rfl, hb⟩; refine ⟨_, rfl, ?_⟩; have n0_ := Aside0.mk (Kd.R_below (pY45) hb); have n1_ := Aside0.mk (Kd.N_below (pY46) hb); have n2_ := Aside0.mk (blk_below (g := gb101) (o := .cells #[.slice A0_0 l0_0.length c0_0, .slice A0_1 l0_1.length c0_1] 31 (0, 0)) (pY38) hb); have n3_ := Aside0.mk (blk_below (g := gb102) (o := .cells #[.slice none 0 0, .slice none 0 0] 31 (0, 0)) (pY39) hb); have n4_ := Aside0.mk (blk_below (g := gb110) (o := .cells #[.slice Ao16 t104.length co16, .slice Ao20 t107.length co20] 31 (0, 0)) (pY41) hb); have n5_ := Aside0.mk (below_step (pY25) hb); clear HO_111000; clear HO_111001; clear BK101; clear BK102; clear BK110; clear HB; have HO_111000 := n0_; have HO_111001 := n1_; have BK101 := n2_; have BK102 := n3_; have BK110 := n4_; have HB := n5_; clear n0_ n1_ n2_ n3_ n4_ n5_; (try clear hb); (try clear hb2); (try clear hk); (try clear hi); have hcz55_0 : w54.cell? ⟨gb101, 0, none⟩ = some (.slice A0_0 l0_0.length c0_0) := (blk_cell BK101.1 0).trans rfl; have hcz55_1 : w54.cell? ⟨gb101, 1, none⟩ = some (.slice A0_1 l0_1.length c0_1) := (blk_cell BK101.1 1).trans rfl; have hfz55_0 := blk_frozen BK101.1 0; have hfz55_1 := blk_frozen BK101.1 1))
       go_loopg [9] kj6 (fun kq v9 w' => ∃ (x9_2 : Int), v9 = .int .i64 x9_2 ∧ Aside0 (spec_ShareEnter.l0 kq a1 l2 x9_2 t104 t107 = some (r1, r2, r3)) ∧ Aside0 (kq ≤ kj6) ∧ Aside0 (Kd.R Kd.string 9 w' w.heap.size (fun k_ => (w.heap.size ≤ k_)) (.slice Ao16 t104.length co16) t104) ∧ Aside0 (Kd.N k56 56 w' w.heap.size (fun k_ => (w.heap.size ≤ k_) ∧ some k_ ≠ ((.slice Ao16 t104.length co16) : Value).ownBlock ∧ k_ ≠ gb101 ∧ k_ ≠ gb102 ∧ k_ ≠ gb110) (.slice Ao20 t107.length co20) t107) ∧ Aside0 (w'.heap[gb101]? = some (.cells #[(.slice A0_0 l0_0.length c0_0), (.slice A0_1 l0_1.length c0_1)] 31 (0, 0))) ∧ Aside0 (w'.heap[gb102]? = some (.cells #[(.slice none 0 0), (.slice none 0 0)] 31 (0, 0))) ∧ Aside0 (w'.heap[gb110]? = some (.cells #[(.slice Ao16 t104.length co16), (.slice Ao20 t107.length co20)] 31 (0, 0))) ∧ Aside0 (Below w.heap.size w w'))
       case atStart => exact ⟨(0), (pY51), H', ⟨Nat.le_refl _⟩, ⟨by (with_reducible repeat (first | apply Kd.R_alloc | apply Kd.R_drewN | apply Kd.R_drew)); exact HO_111000.1⟩, ⟨by (with_reducible repeat (first | apply Kd.N_alloc | apply Kd.N_drewN | apply Kd.N_drew)); exact HO_111001.1⟩, ⟨by (with_reducible repeat (first | refine blk_drewN ?_ _ | refine blk_drew ?_ | refine blk_alloc ?_ _)); exact BK101.1⟩, ⟨by (with_reducible repeat (first | refine blk_drewN ?_ _ | refine blk_drew ?_ | refine blk_alloc ?_ _)); exact BK102.1⟩, ⟨by (with_reducible repeat (first | refine blk_drewN ?_ _ | refine blk_drew ?_ | refine blk_alloc ?_ _)); exact BK110.1⟩, ⟨pY25⟩⟩
       case round =>
        clear H'
        try clear c1
        try clear c2
        try clear p2
        try clear c3
        try clear c4
        try clear c5
        try clear c7
        try clear c8
        try clear c10
        try clear c17
        try clear c18
        try clear c22
        try clear c24
        try clear c25
        try clear c27
        try clear c28
        try clear c29
        try clear c31
        try clear c34
        try clear c34b0
        try clear c35
        try clear c36
        try clear c39
        try clear c42
        try clear c42b0
        try clear c42b1
        try clear c43
        try clear c44
        try clear c48
        try clear c51
        try clear c52
        try clear hcz11_0
        try clear hcz11_1
        try clear hcz13_0
        try clear hcz13_1
        try clear hcz19_0
        try clear hcz19_1
        try clear hcz26_0
        try clear hcz26_1
        try clear hcz30_0
        try clear hcz30_1
        try clear hcz32_0
        try clear hcz32_1
        try clear hcz37_0
        try clear hcz37_1
        try clear hcz40_0
        try clear hcz40_1
        try clear hcz41_0
        try clear hcz41_1
        try clear hcz45_0
        try clear hcz45_1
        try clear hcz47_0
        try clear hcz47_1
        try clear hcz49_0
        try clear hcz49_1
        try clear hcz50_0
        try clear hcz50_1
        try clear hcz53_0
        try clear hcz53_1
        try clear hcz55_0
        try clear hcz55_1
        try clear hfz11_0
        try clear hfz11_1
        try clear hfz13_0
        try clear hfz13_1
        try clear hfz19_0
        try clear hfz19_1
        try clear hfz26_0
        try clear hfz26_1
        try clear hfz30_0
        try clear hfz30_1
        try clear hfz32_0
        try clear hfz32_1
        try clear hfz37_0
        try clear hfz37_1
        try clear hfz40_0
        try clear hfz40_1
        try clear hfz41_0
        try clear hfz41_1
        try clear hfz45_0
        try clear hfz45_1
        try clear hfz47_0
        try clear hfz47_1
        try clear hfz49_0
        try clear hfz49_1
        try clear hfz50_0
        try clear hfz50_1
        try clear hfz53_0
        try clear hfz53_1
        try clear hfz55_0
        try clear hfz55_1
        try clear p2
        obtain ⟨x9_2, rfl, HA, HK2, HO_111000, HO_111001, BK101, BK102, BK110, HB⟩ := hrel
        cases gk with
        | zero => exact absurd HA.out (by simp [spec_ShareEnter.l0])
        | succ k2 =>
         have H := HA.out
         clear HA
         simp only [spec_ShareEnter.l0] at H
         by_cases c56 : x9_2 < (t107.length : Int)
         ·rw [if_pos c56] at H
          have c56b0 : decide (x9_2 < (t107.length : Int)) = true := decide_eq_true c56
          clear c56
          by_cases c57 : 0 ≤ x9_2
          ·rw [if_pos c57] at H
           have c57b0 : decide (0 ≤ x9_2) = true := decide_eq_true c57
           clear c57
           by_cases c58 : (Op.bytesLess (((rd_T56 t107 x9_2).f0).toList) a1.toList) = true
           ·rw [if_pos c58] at H
            have c58b0 : (Op.bytesLess (((rd_T56 t107 x9_2).f0).toList) a1.toList) = true := c58
            clear c58
            have H' := Aside0.mk H
            clear H
            have hnb59 := NB110_101.1
            have hnc59 := NB101_110.1
            have hnb60 := NB110_102.1
            have hnc60 := NB102_110.1
            have hcz61_0 : wr.cell? ⟨gb110, 0, none⟩ = some (.slice Ao16 t104.length co16) := (blk_cell BK110.1 0).trans rfl
            have hcz61_1 : wr.cell? ⟨gb110, 1, none⟩ = some (.slice Ao20 t107.length co20) := (blk_cell BK110.1 1).trans rfl
            have hfz61_0 := blk_frozen BK110.1 0
            have hfz61_1 := blk_frozen BK110.1 1
            have p114 : 0 ≤ (x9_2 : Int) := of_decide_eq_true (pY50)
            have q114 : x9_2 < (t107.length : Int) := of_decide_eq_true (pY50)
            obtain ⟨ad114, A114_1, c114_1, A114_2, c114_2, e114, hx114_0, hx114_1, hx114_2, hl114_1, hi114_1, hl114_2, hi114_2⟩ := at_T56 (Kd.N_reads' HO_111001.1).2.2 x9_2 p114 q114
            cases e114
            obtain ⟨ce114, hce114, hMe114, hcc114⟩ := Kd.N_get HO_111001.1 z56 x9_2 p114 (by first | exact q114 | exact of_decide_eq_true (pY50) | (have e_ := (Kd.N_reads' HO_111001.1).1; omega))
            obtain ⟨ua114_1, uc114_1, ua114_2, uc114_2, rfl, ul114_1, ge114_1, ul114_2, ge114_2⟩ := k56_openF hMe114
            have hv114_1 := hcc114 1 _ rfl
            rw [add_field _ _ 1 (by omega)] at hv114_1
            replace hv114_1 := Option.some.inj (hv114_1.symm.trans hx114_1)
            injection hv114_1 with hva_ hvn_ hvc_
            rw [hva_] at ge114_1
            rw [hvc_] at ul114_1
            have HL114_1 := Aside0.mk (show Kd.V Kd.string 9 _ w.heap.size _ _ ((rd_T56 t107 x9_2).f1) from Kd.V_mk ul114_1 ge114_1)
            clear hva_ hvn_ hvc_ ge114_1 ul114_1
            have hv114_2 := hcc114 2 _ rfl
            rw [add_field _ _ 2 (by omega)] at hv114_2
            replace hv114_2 := Option.some.inj (hv114_2.symm.trans hx114_2)
            injection hv114_2 with hva_ hvn_ hvc_
            rw [hva_] at ge114_2
            rw [hvc_] at ul114_2
            have HL114_2 := Aside0.mk (show Kd.V Kd.string 9 _ w.heap.size _ _ ((rd_T56 t107 x9_2).f2) from Kd.V_mk ul114_2 ge114_2)
            clear hva_ hvn_ hvc_ ge114_2 ul114_2
            clear hcc114 hce114
            have HR114_1 := Aside0.mk hi114_1
            have HC114_1 := Aside0.mk hl114_1
            clear hi114_1 hl114_1
            have HR114_2 := Aside0.mk hi114_2
            have HC114_2 := Aside0.mk hl114_2
            clear hi114_2 hl114_2
            replace p114 := eq_true p114
            replace q114 := eq_true q114
            go_wp2
            go_roundg k2
            case measure => have := HJ6.out; have := HK2.out; omega
            case rel => exact ⟨(wrap64 (x9_2 + 1)), (pY51), H', ⟨by have := HJ6.out; have := HK2.out; omega⟩, ⟨by (with_reducible repeat (first | apply Kd.R_alloc | apply Kd.R_drewN | apply Kd.R_drew)); exact HO_111000.1⟩, ⟨by (with_reducible repeat (first | apply Kd.N_alloc | apply Kd.N_drewN | apply Kd.N_drew)); exact HO_111001.1⟩, ⟨by (with_reducible repeat (first | refine blk_drewN ?_ _ | refine blk_drew ?_ | refine blk_alloc ?_ _)); exact BK101.1⟩, ⟨by (with_reducible repeat (first | refine blk_drewN ?_ _ | refine blk_drew ?_ | refine blk_alloc ?_ _)); exact BK102.1⟩, ⟨by (with_reducible repeat (first | refine blk_drewN ?_ _ | refine blk_drew ?_ | refine blk_alloc ?_ _)); exact BK110.1⟩, ⟨pY25⟩⟩
           ·rw [if_neg c58] at H
            have c58b0 : (Op.bytesLess (((rd_T56 t107 x9_2).f0).toList) a1.toList) = false := by simpa using c58
            clear c58
            obtain ⟨y115, hy115⟩ : ∃ y_ : List (S56), y_ = (([] : List (S56))) := ⟨_, rfl⟩
            replace H : (if x9_2 ≤ (t107.length : Int) then ((some (t107.take (x9_2 : Int).toNat : List (S56))).bind fun y118 => (if y115.length + y118.length < 2199023255552 then ((some (y115 ++ y118 : List (S56))).bind fun y123 => ((spec_l1Names.f l2).bind fun t126 => (if y123.length < 2199023255552 then ((some (y123 ++ [(⟨a1, ([] : List ByteArray), t126⟩ : S56)] : List (S56))).bind fun y129 => ((some (t107.drop (x9_2 : Int).toNat : List (S56))).bind fun y132 => (if y129.length + y132.length < 2199023255552 then ((spec_l1Copy.f k2 t104 (y129 ++ y132)).bind fun bt140 => (some (bt140.1, bt140.2, 0))) else (none)))) else (none)))) else (none))) else (none)) = some (r1, r2, r3) := by first | (rw [hy115]; with_reducible exact H) | (have H2_ := (Option.bind_some _ _).symm.trans H; rw [hy115]; with_reducible exact H2_) | (have H2_ := (Option.bind_some _ _).symm.trans H; with_reducible exact H2_) | with_reducible exact H | (rw [hy115]; exact H) | exact H
            have Ny115 := Aside0.mk hy115
            clear hy115
            have c62b0 := eq_true (of_decide_eq_true (pY50) : 0 ≤ x9_2)
            by_cases c63 : x9_2 ≤ (t107.length : Int)
            ·rw [if_pos c63] at H
             have c63b0 := eq_true c63
             have c63b1 : decide (x9_2 ≤ (t107.length : Int)) = true := decide_eq_true c63
             clear c63
             obtain ⟨y118, hy118⟩ : ∃ y_ : List (S56), y_ = (t107.take (x9_2 : Int).toNat) := ⟨_, rfl⟩
             replace H : (if y115.length + y118.length < 2199023255552 then ((some (y115 ++ y118 : List (S56))).bind fun y123 => ((spec_l1Names.f l2).bind fun t126 => (if y123.length < 2199023255552 then ((some (y123 ++ [(⟨a1, ([] : List ByteArray), t126⟩ : S56)] : List (S56))).bind fun y129 => ((some (t107.drop (x9_2 : Int).toNat : List (S56))).bind fun y132 => (if y129.length + y132.length < 2199023255552 then ((spec_l1Copy.f k2 t104 (y129 ++ y132)).bind fun bt140 => (some (bt140.1, bt140.2, 0))) else (none)))) else (none)))) else (none)) = some (r1, r2, r3) := by first | (rw [hy118]; with_reducible exact H) | (have H2_ := (Option.bind_some _ _).symm.trans H; rw [hy118]; with_reducible exact H2_) | (have H2_ := (Option.bind_some _ _).symm.trans H; with_reducible exact H2_) | with_reducible exact H | (rw [hy118]; exact H) | exact H
             have Ny118 := Aside0.mk hy118
             clear hy118
             by_cases c64 : y115.length + y118.length < 2199023255552
             ·rw [if_pos c64] at H
              have LMc64 := Aside0.mk c64
              clear c64
              obtain ⟨y123, hy123⟩ : ∃ y_ : List (S56), y_ = (y115 ++ y118) := ⟨_, rfl⟩
              replace H : ((spec_l1Names.f l2).bind fun t126 => (if y123.length < 2199023255552 then ((some (y123 ++ [(⟨a1, ([] : List ByteArray), t126⟩ : S56)] : List (S56))).bind fun y129 => ((some (t107.drop (x9_2 : Int).toNat : List (S56))).bind fun y132 => (if y129.length + y132.length < 2199023255552 then ((spec_l1Copy.f k2 t104 (y129 ++ y132)).bind fun bt140 => (some (bt140.1, bt140.2, 0))) else (none)))) else (none))) = some (r1, r2, r3) := by first | (rw [hy123]; with_reducible exact H) | (have H2_ := (Option.bind_some _ _).symm.trans H; rw [hy123]; with_reducible exact H2_) | (have H2_ := (Option.bind_some _ _).symm.trans H; with_reducible exact H2_) | with_reducible exact H | (rw [hy123]; exact H) | exact H
              have Ny123 := Aside0.mk hy123
              clear hy123
              replace H := Option.bind_eq_some_iff.mp H
              obtain ⟨t126, A650, H⟩ := H
              replace H : (if y123.length < 2199023255552 then ((some (y123 ++ [(⟨a1, ([] : List ByteArray), t126⟩ : S56)] : List (S56))).bind fun y129 => ((some (t107.drop (x9_2 : Int).toNat : List (S56))).bind fun y132 => (if y129.length + y132.length < 2199023255552 then ((spec_l1Copy.f k2 t104 (y129 ++ y132)).bind fun bt140 => (some (bt140.1, bt140.2, 0))) else (none)))) else (none)) = some (r1, r2, r3) := H
              have A65 := Aside0.mk A650
              clear A650
              by_cases c66 : y123.length < 2199023255552
              ·rw [if_pos c66] at H
               have LMc66 := Aside0.mk c66
               clear c66
               obtain ⟨y129, hy129⟩ : ∃ y_ : List (S56), y_ = (y123 ++ [(⟨a1, ([] : List ByteArray), t126⟩ : S56)]) := ⟨_, rfl⟩
               replace H : ((some (t107.drop (x9_2 : Int).toNat : List (S56))).bind fun y132 => (if y129.length + y132.length < 2199023255552 then ((spec_l1Copy.f k2 t104 (y129 ++ y132)).bind fun bt140 => (some (bt140.1, bt140.2, 0))) else (none))) = some (r1, r2, r3) := by first | (rw [hy129]; with_reducible exact H) | (have H2_ := (Option.bind_some _ _).symm.trans H; rw [hy129]; with_reducible exact H2_) | (have H2_ := (Option.bind_some _ _).symm.trans H; with_reducible exact H2_) | with_reducible exact H | (rw [hy129]; exact H) | exact H
               have Ny129 := Aside0.mk hy129
               clear hy129
               have c67b0 := eq_true (of_decide_eq_true (pY50) : 0 ≤ x9_2)
               have c68b0 := eq_true (of_decide_eq_true (pY50) : x9_2 ≤ (t107.length : Int))
               obtain ⟨y132, hy132⟩ : ∃ y_ : List (S56), y_ = (t107.drop (x9_2 : Int).toNat) := ⟨_, rfl⟩
               replace H : (if y129.length + y132.length < 2199023255552 then ((spec_l1Copy.f k2 t104 (y129 ++ y132)).bind fun bt140 => (some (bt140.1, bt140.2, 0))) else (none)) = some (r1, r2, r3) := by first | (rw [hy132]; with_reducible exact H) | (have H2_ := (Option.bind_some _ _).symm.trans H; rw [hy132]; with_reducible exact H2_) | (have H2_ := (Option.bind_some _ _).symm.trans H; with_reducible exact H2_) | with_reducible exact H | (rw [hy132]; exact H) | exact H
               have Ny132 := Aside0.mk hy132
               clear hy132
               by_cases c69 : y129.length + y132.length < 2199023255552
               ·rw [if_pos c69] at H
                have LMc69 := Aside0.mk c69
                clear c69
                obtain ⟨y137, hy137⟩ : ∃ y_ : List (S56), y_ = (y129 ++ y132) := ⟨_, rfl⟩
                replace H : ((spec_l1Copy.f k2 t104 y137).bind fun bt140 => (some (bt140.1, bt140.2, 0))) = some (r1, r2, r3) := by first | (rw [hy137]; with_reducible exact H) | (have H2_ := (Option.bind_some _ _).symm.trans H; rw [hy137]; with_reducible exact H2_) | (have H2_ := (Option.bind_some _ _).symm.trans H; with_reducible exact H2_) | with_reducible exact H | (rw [hy137]; exact H) | exact H
                have Ny137 := Aside0.mk hy137
                clear hy137
                replace H := Option.bind_eq_some_iff.mp H
                obtain ⟨⟨t140, t143⟩, A700, H⟩ := H
                replace H : (some (t140, t143, 0)) = some (r1, r2, r3) := H
                have A70 := Aside0.mk A700
                clear A700
                simp only [Option.some.injEq, Prod.mk.injEq] at H
                obtain ⟨rfl, rfl, rfl⟩ := H
                have hnb71 := NB110_101.1
                have hnc71 := NB101_110.1
                have hnb72 := NB110_102.1
                have hnc72 := NB102_110.1
                have hcz73_0 : wr.cell? ⟨gb110, 0, none⟩ = some (.slice Ao16 t104.length co16) := (blk_cell BK110.1 0).trans rfl
                have hcz73_1 : wr.cell? ⟨gb110, 1, none⟩ = some (.slice Ao20 t107.length co20) := (blk_cell BK110.1 1).trans rfl
                have hfz73_0 := blk_frozen BK110.1 0
                have hfz73_1 := blk_frozen BK110.1 1
                have p114 : 0 ≤ (x9_2 : Int) := of_decide_eq_true (pY50)
                have q114 : x9_2 < (t107.length : Int) := of_decide_eq_true (pY50)
                obtain ⟨ad114, A114_1, c114_1, A114_2, c114_2, e114, hx114_0, hx114_1, hx114_2, hl114_1, hi114_1, hl114_2, hi114_2⟩ := at_T56 (Kd.N_reads' HO_111001.1).2.2 x9_2 p114 q114
                cases e114
                obtain ⟨ce114, hce114, hMe114, hcc114⟩ := Kd.N_get HO_111001.1 z56 x9_2 p114 (by first | exact q114 | exact of_decide_eq_true (pY50) | (have e_ := (Kd.N_reads' HO_111001.1).1; omega))
                obtain ⟨ua114_1, uc114_1, ua114_2, uc114_2, rfl, ul114_1, ge114_1, ul114_2, ge114_2⟩ := k56_openF hMe114
                have hv114_1 := hcc114 1 _ rfl
                rw [add_field _ _ 1 (by omega)] at hv114_1
                replace hv114_1 := Option.some.inj (hv114_1.symm.trans hx114_1)
                injection hv114_1 with hva_ hvn_ hvc_
                rw [hva_] at ge114_1
                rw [hvc_] at ul114_1
                have HL114_1 := Aside0.mk (show Kd.V Kd.string 9 _ w.heap.size _ _ ((rd_T56 t107 x9_2).f1) from Kd.V_mk ul114_1 ge114_1)
                clear hva_ hvn_ hvc_ ge114_1 ul114_1
                have hv114_2 := hcc114 2 _ rfl
                rw [add_field _ _ 2 (by omega)] at hv114_2
                replace hv114_2 := Option.some.inj (hv114_2.symm.trans hx114_2)
                injection hv114_2 with hva_ hvn_ hvc_
                rw [hva_] at ge114_2
                rw [hvc_] at ul114_2
                have HL114_2 := Aside0.mk (show Kd.V Kd.string 9 _ w.heap.size _ _ ((rd_T56 t107 x9_2).f2) from Kd.V_mk ul114_2 ge114_2)
                clear hva_ hvn_ hvc_ ge114_2 ul114_2
                clear hcc114 hce114
                have HR114_1 := Aside0.mk hi114_1
                have HC114_1 := Aside0.mk hl114_1
                clear hi114_1 hl114_1
                have HR114_2 := Aside0.mk hi114_2
                have HC114_2 := Aside0.mk hl114_2
                clear hi114_2 hl114_2
                replace p114 := eq_true p114
                replace q114 := eq_true q114
                try go_wp2
                have n0_ := Aside0.mk (Kd.R_drew HO_111000.1)
                have n1_ := Aside0.mk (Kd.N_drew HO_111001.1)
                have n2_ := Aside0.mk (Kd.V_drew HL114_1.out)
                have n3_ := Aside0.mk (Kd.V_drew HL114_2.out)
                have n4_ := Aside0.mk (blk_drew BK101.1)
                have n5_ := Aside0.mk (blk_drew BK102.1)
                have n6_ := Aside0.mk (blk_drew BK110.1)
                have n7_ := Aside0.mk (Kd.C_drew HR114_1.1)
                have n8_ := Aside0.mk (Kd.C_drew HR114_2.1)
                have n9_ := Aside0.mk (below_drew1 HB.1)
                clear HO_111000
                clear HO_111001
                clear HL114_1
                clear HL114_2
                clear BK101
                clear BK102
                clear BK110
                clear HR114_1
                clear HR114_2
                clear HB
                have HO_111000 := n0_
                have HO_111001 := n1_
                have HL114_1 := n2_
                have HL114_2 := n3_
                have BK101 := n4_
                have BK102 := n5_
                have BK110 := n6_
                have HR114_1 := n7_
                have HR114_2 := n8_
                have HB := n9_
                clear n0_ n1_ n2_ n3_ n4_ n5_ n6_ n7_ n8_ n9_
                have q75 : (x9_2 : Int) ≤ ((t107.length : Int) : Int) := of_decide_eq_true (pY50)
                obtain ⟨i075, hi075, _, hsz75, _⟩ := info_parts info56
                have hroom75 : t107.length ≤ co20 := (Kd.N_reads' HO_111001.1).2.1
                have hC75 : Kd.F k56 _ _ (some ad114) t107.length t107 := (Kd.V_at (base := w.heap.size) (Kd.N_V HO_111001.1)).2.2
                have hcut75 := cut_to (P := Try.prog) 29 56 .i64 Try.underlying29 hi075 (some ad114) t107.length co20 x9_2 (of_decide_eq_true (pY50)) q75 hroom75
                have hr75 := Kd.F_take (m := (x9_2 : Int).toNat) hC75 (by omega)
                have hy75 : y118.length = (x9_2 : Int).toNat := (by rw [Ny118.out, List.length_take]; omega)
                rw [← Ny118.out] at hr75
                rw [← hy75] at hcut75
                have HO122 := Aside0.mk (show Kd.V k56 56 _ w.heap.size _ (.slice (some ad114) y118.length co20) y118 from Kd.V_mk (by omega) hr75)
                have HC122 := Aside0.mk (show y118.length ≤ co20 from by omega)
                clear hr75 hC75 hroom75 hi075 hsz75
                have KY75 := Aside0.mk hy75
                clear hy75
                replace q75 := eq_true q75
                have q76 : (x9_2 : Int) ≤ ((t107.length : Int) : Int) := of_decide_eq_true (pY50)
                obtain ⟨i076, hi076, _, hsz76, _⟩ := info_parts info56
                have hroom76 : t107.length ≤ co20 := (Kd.N_reads' HO_111001.1).2.1
                have hC76 : Kd.F k56 _ _ (some ad114) t107.length t107 := (Kd.V_at (base := w.heap.size) (Kd.N_V HO_111001.1)).2.2
                have q076 : (0 : Int) ≤ (x9_2 : Int) := of_decide_eq_true (pY50)
                have hcut76 := cut_from (P := Try.prog) 29 56 .i64 Try.underlying29 hi076 3 hsz76 (some ad114) t107.length co20 x9_2 q076 q76
                have hr76 := Kd.F_cut (m := (x9_2 : Int).toNat) (c := co20) hC76 (by omega) hroom76
                obtain ⟨A76, hA76⟩ : ∃ A1, A1 = (if co20 = (x9_2 : Int).toNat then (some ad114) else ((some ad114) : Option Addr).map (·.add ((x9_2 : Int).toNat * 3))) := ⟨_, rfl⟩
                obtain ⟨c76, hc76⟩ : ∃ c1, c1 = co20 - (x9_2 : Int).toNat := ⟨_, rfl⟩
                have hy76 : y132.length = t107.length - (x9_2 : Int).toNat := (by rw [Ny132.out, List.length_drop] <;> omega)
                rw [show (t107).drop (x9_2 : Int).toNat = y132 from Ny132.out.symm] at hr76
                replace hr76 : Kd.F k56 _ _ A76 y132.length y132 := (by rw [hA76]; exact hr76)
                rw [← hy76, ← hA76, ← hc76] at hcut76
                have HO136 := Aside0.mk (show Kd.V k56 56 _ w.heap.size _ (.slice A76 y132.length c76) y132 from Kd.V_mk (by rw [hy76, hc76]; exact Nat.sub_le_sub_right hroom76 _) hr76)
                have HC136 := Aside0.mk (show y132.length ≤ c76 from by rw [hy76, hc76]; exact Nat.sub_le_sub_right hroom76 _)
                clear hr76 hC76 hroom76 hi076 hsz76 hc76
                have KY76 := Aside0.mk hy76
                have KA76 := Aside0.mk hA76
                clear hy76 hA76
                replace q76 := eq_true q76
                refine start_ (n := 19) (S := fun w' => w'.cell? ⟨gb110, 0, none⟩ = some (.slice Ao16 t104.length co16) ∧ w'.cell? ⟨gb110, 1, none⟩ = some (.slice (some ad114) t107.length co20)) (ds := [18]) #[ff,ff,ff,ff,ff,ff,ff,ff,ff,ff,ff,ff,ff,ff,ff,ff,ff,ff,ff] (by kernel_rfl) rfl rfl ⟨(blk_cell BK110.1 0).trans rfl, (blk_cell BK110.1 1).trans rfl⟩ (fun hHeld => ?_); refine with_tabW spec_ShareEnter.tab13 spec_ShareEnter.bits13 (fun HT_ HW_ => ?_)
                generalize wr.drew = w74 at HO_111000 HO_111001 HL114_1 HL114_2 BK101 BK102 BK110 HR114_1 HR114_2 HB HO122 HO136 hHeld ⊢
                refine pU (i := 1) (N := some 55) #[ff,tt,ff,ff,ff,ff,ff,ff,ff,ff,ff,ff,ff,ff,ff,ff,ff,ff,ff] ?_
                refine pU (i := 3) (N := some 57) #[ff,tt,ff,tt,ff,ff,ff,ff,ff,ff,ff,ff,ff,ff,ff,ff,ff,ff,ff] ?_
                refine pU (i := 6) (N := some 60) #[ff,tt,ff,tt,ff,ff,tt,ff,ff,ff,ff,ff,ff,ff,ff,ff,ff,ff,ff] ?_
                refine pU (i := 7) (N := some 61) #[ff,tt,ff,tt,ff,ff,tt,tt,ff,ff,ff,ff,ff,ff,ff,ff,ff,ff,ff] ?_
                refine pU (i := 12) (N := some 66) #[ff,tt,ff,tt,ff,ff,tt,tt,ff,ff,ff,ff,tt,ff,ff,ff,ff,ff,ff] ?_
                refine pU (i := 14) (N := some 68) #[ff,tt,ff,tt,ff,ff,tt,tt,ff,ff,ff,ff,tt,ff,tt,ff,ff,ff,ff] ?_
                refine tK2 (i := 2) (N := some 56) #[ff,tt,tt,tt,ff,ff,tt,tt,ff,ff,ff,ff,tt,ff,tt,ff,ff,ff,ff] ?_
                refine pU (i := 4) (N := some 58) #[ff,tt,tt,tt,tt,ff,tt,tt,ff,ff,ff,ff,tt,ff,tt,ff,ff,ff,ff] ?_
                refine tK2 (i := 13) (N := some 67) #[ff,tt,tt,tt,tt,ff,tt,tt,ff,ff,ff,ff,tt,tt,tt,ff,ff,ff,ff] ?_
                refine pU (i := 15) (N := some 69) #[ff,tt,tt,tt,tt,ff,tt,tt,ff,ff,ff,ff,tt,tt,tt,tt,ff,ff,ff] ?_
                refine one_ (i := 0) (N := some 54) #[tt,tt,tt,tt,tt,ff,tt,tt,ff,ff,ff,ff,tt,tt,tt,tt,ff,ff,ff] rfl rfl (one_of HT_.out (by kernel_rfl)) (by decide) (fun K hK => ?_)
                refine Kd.N_lit_step k56 _ 56 ?hg (N' := 54) ?hd (xs := ([] : List (S56))) (inner := []) (ok := (fun k_ => (w.heap.size ≤ k_) ∧ some k_ ≠ (.slice Ao16 t104.length co16 : Value).ownBlock ∧ some k_ ≠ (.slice (some ad114) t107.length co20 : Value).ownBlock ∧ k_ ≠ gb101 ∧ k_ ≠ gb102 ∧ k_ ≠ gb110)) (okp := (fun k_ => (w.heap.size ≤ k_) ∧ some k_ ≠ (.slice Ao16 t104.length co16 : Value).ownBlock ∧ some k_ ≠ (.slice (some ad114) t107.length co20 : Value).ownBlock ∧ k_ ≠ gb101 ∧ k_ ≠ gb102 ∧ k_ ≠ gb110)) ?hr ?hp (fun _ hk => hk) ((show ∀ k_, w74.heap.size ≤ k_ → (fun k_ => (w.heap.size ≤ k_) ∧ some k_ ≠ (.slice Ao16 t104.length co16 : Value).ownBlock ∧ some k_ ≠ (.slice (some ad114) t107.length co20 : Value).ownBlock ∧ k_ ≠ gb101 ∧ k_ ≠ gb102 ∧ k_ ≠ gb110) k_ from fun k_ hk => ⟨(Nat.le_trans (below_size (pY25)) hk), Kd.fresh' (Kd.R_lt (pY45)) k_ hk, Kd.fresh' (Kd.N_lt (pY46)) k_ hk, Kd.freshB (g := gb101) (o := .cells #[.slice A0_0 l0_0.length c0_0, .slice A0_1 l0_1.length c0_1] 31 (0, 0)) (pY38) k_ hk, Kd.freshB (g := gb102) (o := .cells #[.slice none 0 0, .slice none 0 0] 31 (0, 0)) (pY39) k_ hk, Kd.freshB (g := gb110) (o := .cells #[.slice Ao16 t104.length co16, .slice (some ad114) t107.length co20] 31 (0, 0)) (pY41) k_ hk⟩) _ (Nat.le_refl _)) (Below.refl _ _) (Nat.le_refl _) (by simp) ?_; (case hd => rfl); (case hg => rfl); (case hr => first | (go_simp; done) | (go_simp; rfl)); (case hp => exact (Reps.none _ _))
                intro v116 w77 ho78 hb hg_ hnew_
                clear hg_ hnew_
                (first | rw [← Ny115.out] at ho78 | (simp only [Int.reduceToNat] at ho78; rw [← Ny115.out] at ho78))
                have n0_ := Aside0.mk (Kd.R_below (pY45) hb)
                have n1_ := Aside0.mk (Kd.N_elder' (pY46) (by first | exact Kd.N_base ho78 | exact Kd.S_base ho78) hb)
                have n2_ := Aside0.mk (Kd.V_elder' (by (with_reducible repeat (first | apply Kd.V_alloc | apply Kd.V_drewN | apply Kd.V_drew)); exact HL114_1.out) (by first | exact Kd.N_base ho78 | exact Kd.S_base ho78) hb)
                have n3_ := Aside0.mk (Kd.V_elder' (by (with_reducible repeat (first | apply Kd.V_alloc | apply Kd.V_drewN | apply Kd.V_drew)); exact HL114_2.out) (by first | exact Kd.N_base ho78 | exact Kd.S_base ho78) hb)
                have n4_ := Aside0.mk (Kd.V_elder' (by (with_reducible repeat (first | apply Kd.V_alloc | apply Kd.V_drewN | apply Kd.V_drew)); exact HO122.1) (by first | exact Kd.N_base ho78 | exact Kd.S_base ho78) hb)
                have n5_ := Aside0.mk (Kd.V_elder' (by (with_reducible repeat (first | apply Kd.V_alloc | apply Kd.V_drewN | apply Kd.V_drew)); exact HO136.1) (by first | exact Kd.N_base ho78 | exact Kd.S_base ho78) hb)
                have n6_ := Aside0.mk (Kd.N_lower ho78 (below_size (pY25)))
                have n7_ := Aside0.mk (blk_below (g := gb101) (o := .cells #[.slice A0_0 l0_0.length c0_0, .slice A0_1 l0_1.length c0_1] 31 (0, 0)) (pY38) hb)
                have n8_ := Aside0.mk (blk_below (g := gb102) (o := .cells #[.slice none 0 0, .slice none 0 0] 31 (0, 0)) (pY39) hb)
                have n9_ := Aside0.mk (blk_below (g := gb110) (o := .cells #[.slice Ao16 t104.length co16, .slice (some ad114) t107.length co20] 31 (0, 0)) (pY41) hb)
                have n10_ := Aside0.mk (Kd.C_below (by repeat (first | (with_reducible exact HR114_1.1) | (with_reducible refine Kd.C_alloc ?_ _) | (with_reducible refine Kd.C_drewN ?_ _) | (with_reducible refine Kd.C_drew ?_) | exact HR114_1.1)) hb)
                have n11_ := Aside0.mk (Kd.C_below (by repeat (first | (with_reducible exact HR114_2.1) | (with_reducible refine Kd.C_alloc ?_ _) | (with_reducible refine Kd.C_drewN ?_ _) | (with_reducible refine Kd.C_drew ?_) | exact HR114_2.1)) hb)
                have n12_ := Aside0.mk (below_step (pY25) hb)
                clear HO_111000
                clear HO_111001
                clear HL114_1
                clear HL114_2
                clear HO122
                clear HO136
                clear BK101
                clear BK102
                clear BK110
                clear HR114_1
                clear HR114_2
                clear HB
                have HO_111000 := n0_
                have HO_111001 := n1_
                have HL114_1 := n2_
                have HL114_2 := n3_
                have HO122 := n4_
                have HO136 := n5_
                have HO117 := n6_
                have BK101 := n7_
                have BK102 := n8_
                have BK110 := n9_
                have HR114_1 := n10_
                have HR114_2 := n11_
                have HB := n12_
                clear n0_ n1_ n2_ n3_ n4_ n5_ n6_ n7_ n8_ n9_ n10_ n11_ n12_
                clear hb ho78
                refine hK.out _ _ ⟨(blk_cell BK110.1 0).trans rfl, (blk_cell BK110.1 1).trans rfl⟩ (fun hHeld => ?_)
                clear hK K
                refine norm_ (a' := ?_) ?_ ?_
                rotate_left
                ·show Act.put _ (some 54) _ = _
                 simp only [pW]
                 rfl
                refine one_ (i := 5) (N := some 59) #[tt,tt,tt,tt,tt,tt,tt,tt,ff,ff,ff,ff,tt,tt,tt,tt,ff,ff,ff] rfl rfl (one_of HT_.out (by kernel_rfl)) (by decide) (fun K hK => ?_)
                refine Kd.N_append_rows_step k56 (w0 := w) w.heap.size (by rfl) (.tmp 54) (.tmp 58) 29 56 (.agg #[(.string ⟨#[]⟩), (.slice none 0 0), (.slice none 0 0)]) 64 rfl Try.underlying29 info56 rfl (by decide) (by omega) v116 y115 y118 _ _ _ (fun k_ => (w.heap.size ≤ k_) ∧ some k_ ≠ (.slice Ao16 t104.length co16 : Value).ownBlock ∧ k_ ≠ gb101 ∧ k_ ≠ gb102 ∧ k_ ≠ gb110) (fun k_ => ((fun k_ => (w.heap.size ≤ k_) ∧ some k_ ≠ (.slice Ao16 t104.length co16 : Value).ownBlock ∧ k_ ≠ gb101 ∧ k_ ≠ gb102 ∧ k_ ≠ gb110)) k_ ∧ some k_ ≠ (v116 : Value).ownBlock) rfl rfl ?aO ?aR (fun _ hk => hk) ?aF ?aB ?aS ?aL ?_
                (case aR => exact (by skip; exact Kd.V_F (Kd.V_mono (ok' := (fun k_ => ((fun k_ => (w.heap.size ≤ k_) ∧ some k_ ≠ (.slice Ao16 t104.length co16 : Value).ownBlock ∧ k_ ≠ gb101 ∧ k_ ≠ gb102 ∧ k_ ≠ gb110)) k_ ∧ some k_ ≠ (v116 : Value).ownBlock)) (HO122.1) (fun k_ hk => ⟨⟨hk.1.1, ⟨hk.1.2.1, ⟨hk.1.2.2.1, ⟨hk.1.2.2.2.1, hk.1.2.2.2.2⟩⟩⟩⟩, hk.2⟩))))
                (case aB => exact (pY25))
                (case aF => exact (fun k_ hk => ⟨(Nat.le_trans (below_size (pY25)) hk), Kd.fresh' (Kd.R_lt (pY45)) k_ hk, Kd.freshB (g := gb101) (o := .cells #[.slice A0_0 l0_0.length c0_0, .slice A0_1 l0_1.length c0_1] 31 (0, 0)) (pY38) k_ hk, Kd.freshB (g := gb102) (o := .cells #[.slice none 0 0, .slice none 0 0] 31 (0, 0)) (pY39) k_ hk, Kd.freshB (g := gb110) (o := .cells #[.slice Ao16 t104.length co16, .slice (some ad114) t107.length co20] 31 (0, 0)) (pY41) k_ hk⟩))
                (case aO => exact (by (with_reducible repeat (first | apply Kd.N_alloc | apply Kd.N_drewN | apply Kd.N_drew)); exact Kd.N_mono HO117.1 (fun _ hk => ⟨hk.1, ⟨hk.2.1, ⟨hk.2.2.2.1, ⟨hk.2.2.2.2.1, hk.2.2.2.2.2⟩⟩⟩⟩)))
                (case aS => exact (below_size (pY25)))
                (case aL => have := LMc64.out; omega)
                intro v124 w79 ho hb hg hat
                rw [← Ny123.out] at ho
                have n0_ := Aside0.mk (Kd.R_over' (pY45) (Kd.N_typed (by (with_reducible repeat (first | apply Kd.N_alloc | apply Kd.N_drewN | apply Kd.N_drew)); exact HO117.1)) (by decide) hg)
                have n1_ := Aside0.mk (Kd.N_afterv (ok := (fun k_ => (w.heap.size ≤ k_) ∧ some k_ ≠ (.slice Ao16 t104.length co16 : Value).ownBlock ∧ k_ ≠ gb101 ∧ k_ ≠ gb102 ∧ k_ ≠ gb110)) (pY46) hg hat)
                have n2_ := Aside0.mk (blk_grown (g := gb101) (o := .cells #[.slice A0_0 l0_0.length c0_0, .slice A0_1 l0_1.length c0_1] 31 (0, 0)) (pY38) hg (Kd.N_ne HO117.1 BK101.1 (by decide)))
                have n3_ := Aside0.mk (blk_grown (g := gb102) (o := .cells #[.slice none 0 0, .slice none 0 0] 31 (0, 0)) (pY39) hg (Kd.N_ne HO117.1 BK102.1 (by decide)))
                have n4_ := Aside0.mk (blk_grown (g := gb110) (o := .cells #[.slice Ao16 t104.length co16, .slice (some ad114) t107.length co20] 31 (0, 0)) (pY41) hg (Kd.N_ne HO117.1 BK110.1 (by decide)))
                have n5_ := Aside0.mk (Kd.V_afterv (ok := (fun k_ => (w.heap.size ≤ k_) ∧ some k_ ≠ (.slice Ao16 t104.length co16 : Value).ownBlock ∧ some k_ ≠ (.slice (some ad114) t107.length co20 : Value).ownBlock ∧ k_ ≠ gb101 ∧ k_ ≠ gb102 ∧ k_ ≠ gb110)) (by (with_reducible repeat (first | apply Kd.V_alloc | apply Kd.V_drewN | apply Kd.V_drew)); exact Kd.V_mono HL114_1.out (fun _ hk => ⟨⟨hk.1.1.1, ⟨hk.1.1.2.1, ⟨hk.1.2, ⟨hk.1.1.2.2.1, ⟨hk.1.1.2.2.2.1, hk.1.1.2.2.2.2⟩⟩⟩⟩⟩, hk.2⟩)) hg hat)
                have n6_ := Aside0.mk (Kd.V_afterv (ok := (fun k_ => (w.heap.size ≤ k_) ∧ some k_ ≠ (.slice Ao16 t104.length co16 : Value).ownBlock ∧ some k_ ≠ (.slice (some ad114) t107.length co20 : Value).ownBlock ∧ k_ ≠ gb101 ∧ k_ ≠ gb102 ∧ k_ ≠ gb110)) (by (with_reducible repeat (first | apply Kd.V_alloc | apply Kd.V_drewN | apply Kd.V_drew)); exact Kd.V_mono HL114_2.out (fun _ hk => ⟨⟨hk.1.1.1, ⟨hk.1.1.2.1, ⟨hk.1.2, ⟨hk.1.1.2.2.1, ⟨hk.1.1.2.2.2.1, hk.1.1.2.2.2.2⟩⟩⟩⟩⟩, hk.2⟩)) hg hat)
                have n7_ := Aside0.mk (Kd.V_afterv (ok := (fun k_ => (w.heap.size ≤ k_) ∧ some k_ ≠ (.slice Ao16 t104.length co16 : Value).ownBlock ∧ k_ ≠ gb101 ∧ k_ ≠ gb102 ∧ k_ ≠ gb110)) (by (with_reducible repeat (first | apply Kd.V_alloc | apply Kd.V_drewN | apply Kd.V_drew)); exact HO122.1) hg hat)
                have n8_ := Aside0.mk (Kd.V_afterv (ok := (fun k_ => (w.heap.size ≤ k_) ∧ some k_ ≠ (.slice Ao16 t104.length co16 : Value).ownBlock ∧ k_ ≠ gb101 ∧ k_ ≠ gb102 ∧ k_ ≠ gb110)) (by (with_reducible repeat (first | apply Kd.V_alloc | apply Kd.V_drewN | apply Kd.V_drew)); exact HO136.1) hg hat)
                have n9_ := Aside0.mk (hb)
                have n10_ := Aside0.mk (ho)
                clear HO_111000
                clear HO_111001
                clear BK101
                clear BK102
                clear BK110
                clear HL114_1
                clear HL114_2
                clear HO122
                clear HO136
                clear HB
                clear HO117
                have HO_111000 := n0_
                have HO_111001 := n1_
                have BK101 := n2_
                have BK102 := n3_
                have BK110 := n4_
                have HL114_1 := n5_
                have HL114_2 := n6_
                have HO122 := n7_
                have HO136 := n8_
                have HB := n9_
                have HO125 := n10_
                clear n0_ n1_ n2_ n3_ n4_ n5_ n6_ n7_ n8_ n9_ n10_
                clear ho hb hg hat
                refine hK.out _ _ ⟨(blk_cell BK110.1 0).trans rfl, (blk_cell BK110.1 1).trans rfl⟩ (fun hHeld => ?_)
                clear hK K
                refine norm_ (a' := ?_) ?_ ?_
                rotate_left
                ·show Act.put _ (some 59) _ = _
                 simp only [pW]
                 rfl
                refine one_ (i := 8) (N := some 62) #[tt,tt,tt,tt,tt,tt,tt,tt,tt,ff,ff,ff,tt,tt,tt,tt,ff,ff,ff] rfl rfl (one_of HT_.out (by kernel_rfl)) (by decide) (fun K hK => ?_)
                refine goes_ Try.func93 (by kernel_rfl) rfl #[.slice A2 l2.length c2] (by rfl) rfl rfl (pY36) ?_
                with_reducible refine (spec_l1Names.calls _ _ l2 t126 _ ?side1 ?side2 A65.out).mono ?_
                (case side1 => exact pC (Kd.C_below HR2.1 HB.1))
                (case side2 => exact HC2.1)
                rintro e w80 ⟨v127, rfl, ho0, hb⟩
                refine ⟨_, rfl, ?_⟩
                have n0_ := Aside0.mk (Kd.R_elder' (pY45) (Kd.R_base ho0) hb)
                have n1_ := Aside0.mk (Kd.N_elder' (pY46) (Kd.R_base ho0) hb)
                have n2_ := Aside0.mk (Kd.V_elder' (by (with_reducible repeat (first | apply Kd.V_alloc | apply Kd.V_drewN | apply Kd.V_drew)); exact HL114_1.out) (Kd.R_base ho0) hb)
                have n3_ := Aside0.mk (Kd.V_elder' (by (with_reducible repeat (first | apply Kd.V_alloc | apply Kd.V_drewN | apply Kd.V_drew)); exact HL114_2.out) (Kd.R_base ho0) hb)
                have n4_ := Aside0.mk (Kd.V_elder' (by (with_reducible repeat (first | apply Kd.V_alloc | apply Kd.V_drewN | apply Kd.V_drew)); exact HO122.1) (Kd.R_base ho0) hb)
                have n5_ := Aside0.mk (Kd.V_elder' (by (with_reducible repeat (first | apply Kd.V_alloc | apply Kd.V_drewN | apply Kd.V_drew)); exact HO136.1) (Kd.R_base ho0) hb)
                have n6_ := Aside0.mk (Kd.N_elder' (by (with_reducible repeat (first | apply Kd.N_alloc | apply Kd.N_drewN | apply Kd.N_drew)); exact HO125.1) (Kd.R_base ho0) hb)
                have n7_ := Aside0.mk (Kd.R_lower (Kd.R_new' (Kd.R_newM (M := fun k_ => (w.heap.size ≤ k_)) ho0 (below_size (pY25)) (fun k_ h_ => h_)) (Kd.R_lt (pY45))) (below_size (pY25)))
                have n8_ := Aside0.mk (blk_below (g := gb101) (o := .cells #[.slice A0_0 l0_0.length c0_0, .slice A0_1 l0_1.length c0_1] 31 (0, 0)) (pY38) hb)
                have n9_ := Aside0.mk (blk_below (g := gb102) (o := .cells #[.slice none 0 0, .slice none 0 0] 31 (0, 0)) (pY39) hb)
                have n10_ := Aside0.mk (blk_below (g := gb110) (o := .cells #[.slice Ao16 t104.length co16, .slice (some ad114) t107.length co20] 31 (0, 0)) (pY41) hb)
                have n11_ := Aside0.mk (below_step (pY25) hb)
                clear HO_111000
                clear HO_111001
                clear HL114_1
                clear HL114_2
                clear HO122
                clear HO136
                clear HO125
                clear BK101
                clear BK102
                clear BK110
                clear HB
                have HO_111000 := n0_
                have HO_111001 := n1_
                have HL114_1 := n2_
                have HL114_2 := n3_
                have HO122 := n4_
                have HO136 := n5_
                have HO125 := n6_
                have HO128 := n7_
                have BK101 := n8_
                have BK102 := n9_
                have BK110 := n10_
                have HB := n11_
                clear n0_ n1_ n2_ n3_ n4_ n5_ n6_ n7_ n8_ n9_ n10_ n11_
                (try clear hb)
                (try clear hb2)
                (try clear hk)
                (try clear hi)
                (try clear ho0)
                obtain ⟨Ao81, co81, eo81⟩ := Kd.R_slice HO128.1
                (first | subst eo81 | (injection eo81 with f1_ f2_ f3_; have f4_ := f1_.symm; have f5_ := f3_.symm; clear f1_ f2_ f3_; subst f4_; subst f5_))
                refine hK.out _ _ ⟨(blk_cell BK110.1 0).trans rfl, (blk_cell BK110.1 1).trans rfl⟩ (fun hHeld => ?_)
                clear hK K
                refine norm_ (a' := ?_) ?_ ?_
                rotate_left
                ·show Act.put _ (some 62) _ = _
                 simp only [pW]
                 rfl
                refine pU (i := 9) (N := some 63) #[tt,tt,tt,tt,tt,tt,tt,tt,tt,tt,ff,ff,tt,tt,tt,tt,ff,ff,ff] ?_
                refine one_ (i := 10) (N := some 64) #[tt,tt,tt,tt,tt,tt,tt,tt,tt,tt,tt,ff,tt,tt,tt,tt,ff,ff,ff] rfl rfl (one_of HT_.out (by kernel_rfl)) (by decide) (fun K hK => ?_)
                refine value_ (w1 := ?_) (v := ?_) (by rfl) rfl ?_ ?_
                rotate_left 2
                ·go_simp
                 constructor
                 ·rfl
                 ·rfl
                refine hK.out _ _ ⟨(blk_cell (blk_alloc BK110.1 _) 0).trans rfl, (blk_cell (blk_alloc BK110.1 _) 1).trans rfl⟩ (fun hHeld => ?_)
                clear hK K
                refine norm_ (a' := ?_) ?_ ?_
                rotate_left
                ·show Act.put _ (some 64) _ = _
                 simp only [pW]
                 rfl
                refine one_ (i := 11) (N := some 65) #[tt,tt,tt,tt,tt,tt,tt,tt,tt,tt,tt,tt,tt,tt,tt,tt,ff,ff,ff] rfl rfl (one_of HT_.out (by kernel_rfl)) (by decide) (fun K hK => ?_)
                refine Kd.N_append_step k56 (w0 := w) w.heap.size (by rfl) (.tmp 59) (.tmp 64) 29 56 (.agg #[(.string ⟨#[]⟩), (.slice none 0 0), (.slice none 0 0)]) 64 rfl Try.underlying29 info56 rfl (by decide) (by omega) v124 y123 (⟨a1, ([] : List ByteArray), t126⟩ : S56) [.string a1, .slice none 0 0, .slice Ao81 t126.length co81] (fun k_ => (w.heap.size ≤ k_) ∧ some k_ ≠ (.slice Ao16 t104.length co16 : Value).ownBlock ∧ k_ ≠ gb101 ∧ k_ ≠ gb102 ∧ k_ ≠ gb110) (fun k_ => ((fun k_ => (w.heap.size ≤ k_) ∧ some k_ ≠ (.slice Ao16 t104.length co16 : Value).ownBlock ∧ k_ ≠ gb101 ∧ k_ ≠ gb102 ∧ k_ ≠ gb110)) k_ ∧ some k_ ≠ (v124 : Value).ownBlock) rfl rfl ?aP (fun _ hk => hk) ?aF ?aO ?aB ?aS ?aL ?_
                (case aP => exact (k56_mkF _ _ (⟨a1, ([] : List ByteArray), t126⟩ : S56) (Nat.le_refl _) (Kd.F_nil _ _ _) (Kd.R_reads' (Kd.R_mono (ok' := (fun k_ => ((fun k_ => (w.heap.size ≤ k_) ∧ some k_ ≠ (.slice Ao16 t104.length co16 : Value).ownBlock ∧ k_ ≠ gb101 ∧ k_ ≠ gb102 ∧ k_ ≠ gb110)) k_ ∧ some k_ ≠ (v124 : Value).ownBlock)) (Kd.R_types (Kd.R_types (Kd.R_types (Kd.R_apart' (HO128.1) (Kd.N_typed HO125.1) (by decide)) BK101.1 (by decide)) BK102.1 (by decide)) BK110.1 (by decide)) (fun k_ hk => ⟨⟨hk.1.1.1.1.1.1, ⟨hk.1.1.1.1.2, ⟨hk.1.1.2, ⟨hk.1.2, hk.2⟩⟩⟩⟩, hk.1.1.1.2⟩))).2.1 (Kd.R_F (Kd.R_mono (ok' := (fun k_ => ((fun k_ => (w.heap.size ≤ k_) ∧ some k_ ≠ (.slice Ao16 t104.length co16 : Value).ownBlock ∧ k_ ≠ gb101 ∧ k_ ≠ gb102 ∧ k_ ≠ gb110)) k_ ∧ some k_ ≠ (v124 : Value).ownBlock)) (Kd.R_types (Kd.R_types (Kd.R_types (Kd.R_apart' (HO128.1) (Kd.N_typed HO125.1) (by decide)) BK101.1 (by decide)) BK102.1 (by decide)) BK110.1 (by decide)) (fun k_ hk => ⟨⟨hk.1.1.1.1.1.1, ⟨hk.1.1.1.1.2, ⟨hk.1.1.2, ⟨hk.1.2, hk.2⟩⟩⟩⟩, hk.1.1.1.2⟩)))))
                (case aB => exact (pY25))
                (case aF => exact (fun k_ hk => ⟨(Nat.le_trans (below_size (pY25)) hk), Kd.fresh' (Kd.R_lt (pY45)) k_ hk, Kd.freshB (g := gb101) (o := .cells #[.slice A0_0 l0_0.length c0_0, .slice A0_1 l0_1.length c0_1] 31 (0, 0)) (pY38) k_ hk, Kd.freshB (g := gb102) (o := .cells #[.slice none 0 0, .slice none 0 0] 31 (0, 0)) (pY39) k_ hk, Kd.freshB (g := gb110) (o := .cells #[.slice Ao16 t104.length co16, .slice (some ad114) t107.length co20] 31 (0, 0)) (pY41) k_ hk⟩))
                (case aO => exact (by (with_reducible repeat (first | apply Kd.N_alloc | apply Kd.N_drewN | apply Kd.N_drew)); exact Kd.N_mono HO125.1 (fun _ hk => ⟨hk.1.1, ⟨hk.1.2.1, ⟨hk.1.2.2.1, ⟨hk.1.2.2.2.1, hk.1.2.2.2.2⟩⟩⟩⟩)))
                (case aS => exact (below_size (pY25)))
                (case aL => have := LMc66.out; omega)
                intro v130 w82 ho hb hg hat
                rw [← Ny129.out] at ho
                have n0_ := Aside0.mk (Kd.R_over' (pY45) (Kd.N_typed (by (with_reducible repeat (first | apply Kd.N_alloc | apply Kd.N_drewN | apply Kd.N_drew)); exact HO125.1)) (by decide) hg)
                have n1_ := Aside0.mk (Kd.N_afterv (ok := (fun k_ => (w.heap.size ≤ k_) ∧ some k_ ≠ (.slice Ao16 t104.length co16 : Value).ownBlock ∧ some k_ ≠ (.slice Ao81 t126.length co81 : Value).ownBlock ∧ k_ ≠ gb101 ∧ k_ ≠ gb102 ∧ k_ ≠ gb110)) (by (with_reducible repeat (first | apply Kd.N_alloc | apply Kd.N_drewN | apply Kd.N_drew)); exact Kd.N_mono HO_111001.1 (fun _ hk => ⟨⟨hk.1.1.1, ⟨hk.1.1.2.1, ⟨hk.2, ⟨hk.1.1.2.2.1, ⟨hk.1.1.2.2.2.1, hk.1.1.2.2.2.2⟩⟩⟩⟩⟩, hk.1.2⟩)) hg hat)
                have n2_ := Aside0.mk (blk_grown (g := gb101) (o := .cells #[.slice A0_0 l0_0.length c0_0, .slice A0_1 l0_1.length c0_1] 31 (0, 0)) (pY38) hg (Kd.N_ne HO125.1 BK101.1 (by decide)))
                have n3_ := Aside0.mk (blk_grown (g := gb102) (o := .cells #[.slice none 0 0, .slice none 0 0] 31 (0, 0)) (pY39) hg (Kd.N_ne HO125.1 BK102.1 (by decide)))
                have n4_ := Aside0.mk (blk_grown (g := gb110) (o := .cells #[.slice Ao16 t104.length co16, .slice (some ad114) t107.length co20] 31 (0, 0)) (pY41) hg (Kd.N_ne HO125.1 BK110.1 (by decide)))
                have n5_ := Aside0.mk (Kd.V_afterv (ok := (fun k_ => (w.heap.size ≤ k_) ∧ some k_ ≠ (.slice Ao16 t104.length co16 : Value).ownBlock ∧ some k_ ≠ (.slice (some ad114) t107.length co20 : Value).ownBlock ∧ some k_ ≠ (.slice Ao81 t126.length co81 : Value).ownBlock ∧ k_ ≠ gb101 ∧ k_ ≠ gb102 ∧ k_ ≠ gb110)) (by (with_reducible repeat (first | apply Kd.V_alloc | apply Kd.V_drewN | apply Kd.V_drew)); exact Kd.V_mono HL114_1.out (fun _ hk => ⟨⟨hk.1.1.1, ⟨hk.1.1.2.1, ⟨hk.1.1.2.2.1, ⟨hk.2, ⟨hk.1.1.2.2.2.1, ⟨hk.1.1.2.2.2.2.1, hk.1.1.2.2.2.2.2⟩⟩⟩⟩⟩⟩, hk.1.2⟩)) hg hat)
                have n6_ := Aside0.mk (Kd.V_afterv (ok := (fun k_ => (w.heap.size ≤ k_) ∧ some k_ ≠ (.slice Ao16 t104.length co16 : Value).ownBlock ∧ some k_ ≠ (.slice (some ad114) t107.length co20 : Value).ownBlock ∧ some k_ ≠ (.slice Ao81 t126.length co81 : Value).ownBlock ∧ k_ ≠ gb101 ∧ k_ ≠ gb102 ∧ k_ ≠ gb110)) (by (with_reducible repeat (first | apply Kd.V_alloc | apply Kd.V_drewN | apply Kd.V_drew)); exact Kd.V_mono HL114_2.out (fun _ hk => ⟨⟨hk.1.1.1, ⟨hk.1.1.2.1, ⟨hk.1.1.2.2.1, ⟨hk.2, ⟨hk.1.1.2.2.2.1, ⟨hk.1.1.2.2.2.2.1, hk.1.1.2.2.2.2.2⟩⟩⟩⟩⟩⟩, hk.1.2⟩)) hg hat)
                have n7_ := Aside0.mk (Kd.V_afterv (ok := (fun k_ => (w.heap.size ≤ k_) ∧ some k_ ≠ (.slice Ao16 t104.length co16 : Value).ownBlock ∧ some k_ ≠ (.slice Ao81 t126.length co81 : Value).ownBlock ∧ k_ ≠ gb101 ∧ k_ ≠ gb102 ∧ k_ ≠ gb110)) (by (with_reducible repeat (first | apply Kd.V_alloc | apply Kd.V_drewN | apply Kd.V_drew)); exact Kd.V_mono HO122.1 (fun _ hk => ⟨⟨hk.1.1.1, ⟨hk.1.1.2.1, ⟨hk.2, ⟨hk.1.1.2.2.1, ⟨hk.1.1.2.2.2.1, hk.1.1.2.2.2.2⟩⟩⟩⟩⟩, hk.1.2⟩)) hg hat)
                have n8_ := Aside0.mk (Kd.V_afterv (ok := (fun k_ => (w.heap.size ≤ k_) ∧ some k_ ≠ (.slice Ao16 t104.length co16 : Value).ownBlock ∧ some k_ ≠ (.slice Ao81 t126.length co81 : Value).ownBlock ∧ k_ ≠ gb101 ∧ k_ ≠ gb102 ∧ k_ ≠ gb110)) (by (with_reducible repeat (first | apply Kd.V_alloc | apply Kd.V_drewN | apply Kd.V_drew)); exact Kd.V_mono HO136.1 (fun _ hk => ⟨⟨hk.1.1.1, ⟨hk.1.1.2.1, ⟨hk.2, ⟨hk.1.1.2.2.1, ⟨hk.1.1.2.2.2.1, hk.1.1.2.2.2.2⟩⟩⟩⟩⟩, hk.1.2⟩)) hg hat)
                have n9_ := Aside0.mk (hb)
                have n10_ := Aside0.mk (ho)
                clear HO_111000
                clear HO_111001
                clear BK101
                clear BK102
                clear BK110
                clear HL114_1
                clear HL114_2
                clear HO122
                clear HO136
                clear HB
                clear HO125
                clear HO128
                have HO_111000 := n0_
                have HO_111001 := n1_
                have BK101 := n2_
                have BK102 := n3_
                have BK110 := n4_
                have HL114_1 := n5_
                have HL114_2 := n6_
                have HO122 := n7_
                have HO136 := n8_
                have HB := n9_
                have HO131 := n10_
                clear n0_ n1_ n2_ n3_ n4_ n5_ n6_ n7_ n8_ n9_ n10_
                clear ho hb hg hat
                refine hK.out _ _ ⟨(blk_cell BK110.1 0).trans rfl, (blk_cell BK110.1 1).trans rfl⟩ (fun hHeld => ?_)
                clear hK K
                refine norm_ (a' := ?_) ?_ ?_
                rotate_left
                ·show Act.put _ (some 65) _ = _
                 simp only [pW]
                 rfl
                refine one_ (i := 16) (N := some 70) #[tt,tt,tt,tt,tt,tt,tt,tt,tt,tt,tt,tt,tt,tt,tt,tt,tt,ff,ff] rfl rfl (one_of HT_.out (by kernel_rfl)) (by decide) (fun K hK => ?_)
                refine Kd.N_append_rows_step k56 (w0 := w) w.heap.size (by rfl) (.tmp 65) (.tmp 69) 29 56 (.agg #[(.string ⟨#[]⟩), (.slice none 0 0), (.slice none 0 0)]) 64 rfl Try.underlying29 info56 rfl (by decide) (by omega) v130 y129 y132 _ _ _ (fun k_ => (w.heap.size ≤ k_) ∧ some k_ ≠ (.slice Ao16 t104.length co16 : Value).ownBlock ∧ k_ ≠ gb101 ∧ k_ ≠ gb102 ∧ k_ ≠ gb110) (fun k_ => ((fun k_ => (w.heap.size ≤ k_) ∧ some k_ ≠ (.slice Ao16 t104.length co16 : Value).ownBlock ∧ k_ ≠ gb101 ∧ k_ ≠ gb102 ∧ k_ ≠ gb110)) k_ ∧ some k_ ≠ (v130 : Value).ownBlock) rfl rfl ?aO ?aR (fun _ hk => hk) ?aF ?aB ?aS ?aL ?_
                (case aR => exact (by skip; exact Kd.V_F (Kd.V_mono (ok' := (fun k_ => ((fun k_ => (w.heap.size ≤ k_) ∧ some k_ ≠ (.slice Ao16 t104.length co16 : Value).ownBlock ∧ k_ ≠ gb101 ∧ k_ ≠ gb102 ∧ k_ ≠ gb110)) k_ ∧ some k_ ≠ (v130 : Value).ownBlock)) (HO136.1) (fun k_ hk => ⟨⟨hk.1.1, ⟨hk.1.2.1, ⟨hk.1.2.2.2.1, ⟨hk.1.2.2.2.2.1, hk.1.2.2.2.2.2⟩⟩⟩⟩, hk.2⟩))))
                (case aB => exact (pY25))
                (case aF => exact (fun k_ hk => ⟨(Nat.le_trans (below_size (pY25)) hk), Kd.fresh' (Kd.R_lt (pY45)) k_ hk, Kd.freshB (g := gb101) (o := .cells #[.slice A0_0 l0_0.length c0_0, .slice A0_1 l0_1.length c0_1] 31 (0, 0)) (pY38) k_ hk, Kd.freshB (g := gb102) (o := .cells #[.slice none 0 0, .slice none 0 0] 31 (0, 0)) (pY39) k_ hk, Kd.freshB (g := gb110) (o := .cells #[.slice Ao16 t104.length co16, .slice (some ad114) t107.length co20] 31 (0, 0)) (pY41) k_ hk⟩))
                (case aO => exact (by (with_reducible repeat (first | apply Kd.N_alloc | apply Kd.N_drewN | apply Kd.N_drew)); exact HO131.1))
                (case aS => exact (below_size (pY25)))
                (case aL => have := LMc69.out; omega)
                intro v138 w83 ho hb hg hat
                rw [← Ny137.out] at ho
                have n0_ := Aside0.mk (Kd.R_over' (pY45) (Kd.N_typed (by (with_reducible repeat (first | apply Kd.N_alloc | apply Kd.N_drewN | apply Kd.N_drew)); exact HO131.1)) (by decide) hg)
                have n1_ := Aside0.mk (Kd.N_afterv (ok := (fun k_ => (w.heap.size ≤ k_) ∧ some k_ ≠ (.slice Ao16 t104.length co16 : Value).ownBlock ∧ k_ ≠ gb101 ∧ k_ ≠ gb102 ∧ k_ ≠ gb110)) (by (with_reducible repeat (first | apply Kd.N_alloc | apply Kd.N_drewN | apply Kd.N_drew)); exact Kd.N_mono HO_111001.1 (fun _ hk => ⟨⟨hk.1.1, ⟨hk.1.2.1, ⟨hk.1.2.2.2.1, ⟨hk.1.2.2.2.2.1, hk.1.2.2.2.2.2⟩⟩⟩⟩, hk.2⟩)) hg hat)
                have n2_ := Aside0.mk (blk_grown (g := gb101) (o := .cells #[.slice A0_0 l0_0.length c0_0, .slice A0_1 l0_1.length c0_1] 31 (0, 0)) (pY38) hg (Kd.N_ne HO131.1 BK101.1 (by decide)))
                have n3_ := Aside0.mk (blk_grown (g := gb102) (o := .cells #[.slice none 0 0, .slice none 0 0] 31 (0, 0)) (pY39) hg (Kd.N_ne HO131.1 BK102.1 (by decide)))
                have n4_ := Aside0.mk (blk_grown (g := gb110) (o := .cells #[.slice Ao16 t104.length co16, .slice (some ad114) t107.length co20] 31 (0, 0)) (pY41) hg (Kd.N_ne HO131.1 BK110.1 (by decide)))
                have n5_ := Aside0.mk (Kd.V_afterv (ok := (fun k_ => (w.heap.size ≤ k_) ∧ some k_ ≠ (.slice Ao16 t104.length co16 : Value).ownBlock ∧ some k_ ≠ (.slice (some ad114) t107.length co20 : Value).ownBlock ∧ k_ ≠ gb101 ∧ k_ ≠ gb102 ∧ k_ ≠ gb110)) (by (with_reducible repeat (first | apply Kd.V_alloc | apply Kd.V_drewN | apply Kd.V_drew)); exact Kd.V_mono HL114_1.out (fun _ hk => ⟨⟨hk.1.1, ⟨hk.1.2.1, ⟨hk.1.2.2.1, ⟨hk.1.2.2.2.2.1, ⟨hk.1.2.2.2.2.2.1, hk.1.2.2.2.2.2.2⟩⟩⟩⟩⟩, hk.2⟩)) hg hat)
                have n6_ := Aside0.mk (Kd.V_afterv (ok := (fun k_ => (w.heap.size ≤ k_) ∧ some k_ ≠ (.slice Ao16 t104.length co16 : Value).ownBlock ∧ some k_ ≠ (.slice (some ad114) t107.length co20 : Value).ownBlock ∧ k_ ≠ gb101 ∧ k_ ≠ gb102 ∧ k_ ≠ gb110)) (by (with_reducible repeat (first | apply Kd.V_alloc | apply Kd.V_drewN | apply Kd.V_drew)); exact Kd.V_mono HL114_2.out (fun _ hk => ⟨⟨hk.1.1, ⟨hk.1.2.1, ⟨hk.1.2.2.1, ⟨hk.1.2.2.2.2.1, ⟨hk.1.2.2.2.2.2.1, hk.1.2.2.2.2.2.2⟩⟩⟩⟩⟩, hk.2⟩)) hg hat)
                have n7_ := Aside0.mk (Kd.V_afterv (ok := (fun k_ => (w.heap.size ≤ k_) ∧ some k_ ≠ (.slice Ao16 t104.length co16 : Value).ownBlock ∧ k_ ≠ gb101 ∧ k_ ≠ gb102 ∧ k_ ≠ gb110)) (by (with_reducible repeat (first | apply Kd.V_alloc | apply Kd.V_drewN | apply Kd.V_drew)); exact Kd.V_mono HO122.1 (fun _ hk => ⟨⟨hk.1.1, ⟨hk.1.2.1, ⟨hk.1.2.2.2.1, ⟨hk.1.2.2.2.2.1, hk.1.2.2.2.2.2⟩⟩⟩⟩, hk.2⟩)) hg hat)
                have n8_ := Aside0.mk (Kd.V_afterv (ok := (fun k_ => (w.heap.size ≤ k_) ∧ some k_ ≠ (.slice Ao16 t104.length co16 : Value).ownBlock ∧ k_ ≠ gb101 ∧ k_ ≠ gb102 ∧ k_ ≠ gb110)) (by (with_reducible repeat (first | apply Kd.V_alloc | apply Kd.V_drewN | apply Kd.V_drew)); exact Kd.V_mono HO136.1 (fun _ hk => ⟨⟨hk.1.1, ⟨hk.1.2.1, ⟨hk.1.2.2.2.1, ⟨hk.1.2.2.2.2.1, hk.1.2.2.2.2.2⟩⟩⟩⟩, hk.2⟩)) hg hat)
                have n9_ := Aside0.mk (hb)
                have n10_ := Aside0.mk (ho)
                clear HO_111000
                clear HO_111001
                clear BK101
                clear BK102
                clear BK110
                clear HL114_1
                clear HL114_2
                clear HO122
                clear HO136
                clear HB
                clear HO131
                have HO_111000 := n0_
                have HO_111001 := n1_
                have BK101 := n2_
                have BK102 := n3_
                have BK110 := n4_
                have HL114_1 := n5_
                have HL114_2 := n6_
                have HO122 := n7_
                have HO136 := n8_
                have HB := n9_
                have HO139 := n10_
                clear n0_ n1_ n2_ n3_ n4_ n5_ n6_ n7_ n8_ n9_ n10_
                clear ho hb hg hat
                obtain ⟨Ao84, co84, eo84⟩ := Kd.N_slice HO139.1
                (first | subst eo84 | (injection eo84 with f1_ f2_ f3_; have f4_ := f1_.symm; have f5_ := f3_.symm; clear f1_ f2_ f3_; subst f4_; subst f5_))
                refine hK.out _ _ ⟨(blk_cell BK110.1 0).trans rfl, (blk_cell BK110.1 1).trans rfl⟩ (fun hHeld => ?_)
                clear hK K
                refine norm_ (a' := ?_) ?_ ?_
                rotate_left
                ·show Act.put _ (some 70) _ = _
                 simp only [pW]
                 rfl
                refine pU (i := 17) (N := some 71) #[tt,tt,tt,tt,tt,tt,tt,tt,tt,tt,tt,tt,tt,tt,tt,tt,tt,tt,ff] ?_
                refine last_ (i := 18) (N := none) #[tt,tt,tt,tt,tt,tt,tt,tt,tt,tt,tt,tt,tt,tt,tt,tt,tt,tt,tt] rfl rfl (one_of HT_.out (by kernel_rfl)) (by decide) (fun K hK => ?_)
                have hs85 : w83.cell? ⟨gb110, 1, none⟩ = some (.slice (some ad114) t107.length co20) := (blk_cell BK110.1 1).trans rfl
                have hfs85 := blk_frozen BK110.1 1
                have hns85_0 := NB101_110.1
                have hns85_1 := NB102_110.1
                have hms85_0 := NB110_101.1
                have hms85_1 := NB110_102.1
                refine skip_ (w1 := ?_) (by rfl) rfl ?_ ?_
                rotate_left
                ·go_simp
                 rfl
                refine hK.out _ _ ?_
                clear hK K
                refine done_ (done_of HT_.out (by kernel_rfl)) ?_
                have hcz86_0 : w83.cell? ⟨gb110, 0, none⟩ = some (.slice Ao16 t104.length co16) := (blk_cell BK110.1 0).trans rfl
                have hcz86_1 : w83.cell? ⟨gb110, 1, none⟩ = some (.slice (some ad114) t107.length co20) := (blk_cell BK110.1 1).trans rfl
                have hfz86_0 := blk_frozen BK110.1 0
                have hfz86_1 := blk_frozen BK110.1 1
                try go_wp2_with (first | ((with_reducible refine gate_callee (f := 89) rfl ?_); refine goesL_ (some 73) rfl rfl Try.func89 (by kernel_rfl) rfl #[.agg #[.slice Ao16 t104.length co16, .slice Ao84 y137.length co84]] rfl (pY36) ?_; (with_reducible refine (spec_l1Copy.calls k2 _ _ t104 _ _ y137 t140 t143 _ ?side1 ?side2 ?side3 ?side4 A70.out).mono ?_); (case side1 => refine (Kd.R_reads' (e := 9) (base := w.heap.size) (ok := fun k_ => (w.heap.size ≤ k_)) (n := t104.length) (c := co16) ?_).2.2; exact (by (with_reducible repeat (first | apply Kd.R_alloc | apply Kd.R_drewN | apply Kd.R_drew)); exact Kd.R_mono (Kd.R_far (p := ⟨gb110, 1, none⟩) (Kd.R_types HO_111000.1 BK110.1 (by decide)) (fun _ hk => hk.2) (.slice Ao84 y137.length co84)) (fun _ hk => hk.1.1))); (case side2 => exact (Kd.R_reads' HO_111000.1).2.1); (case side3 => refine (Kd.N_reads' (e := 56) (base := w.heap.size) (ok := fun k_ => ((w.heap.size ≤ k_) ∧ (some k_ ≠ (.slice Ao16 t104.length co16 : Value).ownBlock ∧ (k_ ≠ gb101 ∧ (k_ ≠ gb102 ∧ k_ ≠ gb110))))) (n := y137.length) (c := co84) ?_).2.2; exact (by (with_reducible repeat (first | apply Kd.N_alloc | apply Kd.N_drewN | apply Kd.N_drew)); exact (Kd.N_mono (Kd.N_far (p := ⟨gb110, 1, none⟩) (Kd.N_mono HO139.1 (fun k_ hk => (⟨hk, hk.2.2.2.2⟩ : _ ∧ k_ ≠ gb110))) (fun _ hk => hk.2) (.slice Ao84 y137.length co84)) (fun _ h_ => h_.1)))); (case side4 => exact (Kd.N_reads' HO139.1).2.1); rintro e w87 ⟨v141, v144, rfl, ho0, ho1, hb⟩; refine ⟨_, rfl, ?_⟩; have n0_ := Aside0.mk (Kd.R_elder' (by (with_reducible repeat (first | apply Kd.R_alloc | apply Kd.R_drewN | apply Kd.R_drew)); exact (Kd.R_mono (Kd.R_far (p := ⟨gb110, 1, none⟩) (Kd.R_types HO_111000.1 BK110.1 (by decide)) (fun _ hk => hk.2) (.slice Ao84 y137.length co84)) (fun _ h_ => h_.1))) (Kd.R_base ho0) hb); have n1_ := Aside0.mk (Kd.N_mono (Kd.N_told (Kd.N_told (Kd.N_old (by (with_reducible repeat (first | apply Kd.N_alloc | apply Kd.N_drewN | apply Kd.N_drew)); exact (Kd.N_mono (Kd.N_far (p := ⟨gb110, 1, none⟩) (Kd.N_mono HO_111001.1 (fun k_ hk => (⟨hk, hk.1.2.2.2.2⟩ : _ ∧ k_ ≠ gb110))) (fun _ hk => hk.2) (.slice Ao84 y137.length co84)) (fun _ h_ => h_.1))) hb) (Kd.R_base ho0)) (by first | exact Kd.N_base ho1 | exact Kd.S_base ho1)) (fun _ h_ => h_.1)); have n2_ := Aside0.mk (Kd.V_mono (Kd.V_told (Kd.V_told (Kd.V_old (by (with_reducible repeat (first | apply Kd.V_alloc | apply Kd.V_drewN | apply Kd.V_drew)); exact (Kd.V_mono (Kd.V_far (p := ⟨gb110, 1, none⟩) (Kd.V_mono HL114_1.out (fun k_ hk => (⟨hk, hk.1.2.2.2.2.2⟩ : _ ∧ k_ ≠ gb110))) (fun _ hk => hk.2) (.slice Ao84 y137.length co84)) (fun _ h_ => h_.1))) hb) (Kd.R_base ho0)) (by first | exact Kd.N_base ho1 | exact Kd.S_base ho1)) (fun _ h_ => h_.1)); have n3_ := Aside0.mk (Kd.V_mono (Kd.V_told (Kd.V_told (Kd.V_old (by (with_reducible repeat (first | apply Kd.V_alloc | apply Kd.V_drewN | apply Kd.V_drew)); exact (Kd.V_mono (Kd.V_far (p := ⟨gb110, 1, none⟩) (Kd.V_mono HL114_2.out (fun k_ hk => (⟨hk, hk.1.2.2.2.2.2⟩ : _ ∧ k_ ≠ gb110))) (fun _ hk => hk.2) (.slice Ao84 y137.length co84)) (fun _ h_ => h_.1))) hb) (Kd.R_base ho0)) (by first | exact Kd.N_base ho1 | exact Kd.S_base ho1)) (fun _ h_ => h_.1)); have n4_ := Aside0.mk (Kd.V_mono (Kd.V_told (Kd.V_told (Kd.V_old (by (with_reducible repeat (first | apply Kd.V_alloc | apply Kd.V_drewN | apply Kd.V_drew)); exact (Kd.V_mono (Kd.V_far (p := ⟨gb110, 1, none⟩) (Kd.V_mono HO122.1 (fun k_ hk => (⟨hk, hk.1.2.2.2.2⟩ : _ ∧ k_ ≠ gb110))) (fun _ hk => hk.2) (.slice Ao84 y137.length co84)) (fun _ h_ => h_.1))) hb) (Kd.R_base ho0)) (by first | exact Kd.N_base ho1 | exact Kd.S_base ho1)) (fun _ h_ => h_.1)); have n5_ := Aside0.mk (Kd.V_mono (Kd.V_told (Kd.V_told (Kd.V_old (by (with_reducible repeat (first | apply Kd.V_alloc | apply Kd.V_drewN | apply Kd.V_drew)); exact (Kd.V_mono (Kd.V_far (p := ⟨gb110, 1, none⟩) (Kd.V_mono HO136.1 (fun k_ hk => (⟨hk, hk.1.2.2.2.2⟩ : _ ∧ k_ ≠ gb110))) (fun _ hk => hk.2) (.slice Ao84 y137.length co84)) (fun _ h_ => h_.1))) hb) (Kd.R_base ho0)) (by first | exact Kd.N_base ho1 | exact Kd.S_base ho1)) (fun _ h_ => h_.1)); have n6_ := Aside0.mk (Kd.N_mono (Kd.N_told (Kd.N_told (Kd.N_old (by (with_reducible repeat (first | apply Kd.N_alloc | apply Kd.N_drewN | apply Kd.N_drew)); exact (Kd.N_mono (Kd.N_far (p := ⟨gb110, 1, none⟩) (Kd.N_mono HO139.1 (fun k_ hk => (⟨hk, hk.2.2.2.2⟩ : _ ∧ k_ ≠ gb110))) (fun _ hk => hk.2) (.slice Ao84 y137.length co84)) (fun _ h_ => h_.1))) hb) (Kd.R_base ho0)) (by first | exact Kd.N_base ho1 | exact Kd.S_base ho1)) (fun _ h_ => h_.1)); have n7_ := Aside0.mk (Kd.R_lower (Kd.R_new' (Kd.R_newM (M := fun k_ => (w.heap.size ≤ k_)) ho0 (below_size (pY25)) (fun k_ h_ => h_)) (Kd.R_lt (by (with_reducible repeat (first | apply Kd.R_alloc | apply Kd.R_drewN | apply Kd.R_drew)); exact (Kd.R_mono (Kd.R_far (p := ⟨gb110, 1, none⟩) (Kd.R_types HO_111000.1 BK110.1 (by decide)) (fun _ hk => hk.2) (.slice Ao84 y137.length co84)) (fun _ h_ => h_.1))))) (below_size (pY25))); have n8_ := Aside0.mk (Kd.N_lower (Kd.N_mono (ok' := fun k_ => (w.heap.size ≤ k_) ∧ some k_ ≠ (v141 : Value).ownBlock ∧ some k_ ≠ (.slice Ao16 t104.length co16 : Value).ownBlock ∧ some k_ ≠ (.slice (some ad114) t107.length co20 : Value).ownBlock ∧ some k_ ≠ (.slice Ao84 y137.length co84 : Value).ownBlock ∧ k_ ≠ gb101 ∧ k_ ≠ gb102 ∧ k_ ≠ gb110) (Kd.S_N (Kd.S_bound ho1)) (fun k_ hk_ => ⟨(Nat.le_trans (below_size (pY25)) hk_.2.1), hk_.1, (Kd.fresh' (Kd.R_lt (by (with_reducible repeat (first | apply Kd.R_alloc | apply Kd.R_drewN | apply Kd.R_drew)); exact (Kd.R_mono (Kd.R_far (p := ⟨gb110, 1, none⟩) (Kd.R_types HO_111000.1 BK110.1 (by decide)) (fun _ hk => hk.2) (.slice Ao84 y137.length co84)) (fun _ h_ => h_.1)))) k_ hk_.2.1), (Kd.fresh' (Kd.N_lt (by (with_reducible repeat (first | apply Kd.N_alloc | apply Kd.N_drewN | apply Kd.N_drew)); exact (Kd.N_mono (Kd.N_far (p := ⟨gb110, 1, none⟩) (Kd.N_mono HO_111001.1 (fun k_ hk => (⟨hk, hk.1.2.2.2.2⟩ : _ ∧ k_ ≠ gb110))) (fun _ hk => hk.2) (.slice Ao84 y137.length co84)) (fun _ h_ => h_.1)))) k_ hk_.2.1), (Kd.fresh' (Kd.N_lt (by (with_reducible repeat (first | apply Kd.N_alloc | apply Kd.N_drewN | apply Kd.N_drew)); exact (Kd.N_mono (Kd.N_far (p := ⟨gb110, 1, none⟩) (Kd.N_mono HO139.1 (fun k_ hk => (⟨hk, hk.2.2.2.2⟩ : _ ∧ k_ ≠ gb110))) (fun _ hk => hk.2) (.slice Ao84 y137.length co84)) (fun _ h_ => h_.1)))) k_ hk_.2.1), (Kd.freshB (g := gb101) (o := .cells #[.slice A0_0 l0_0.length c0_0, .slice A0_1 l0_1.length c0_1] 31 (0, 0)) (pY17) k_ hk_.2.1), (Kd.freshB (g := gb102) (o := .cells #[.slice none 0 0, .slice none 0 0] 31 (0, 0)) (pY18) k_ hk_.2.1), (Kd.freshB (g := gb110) (o := .cells #[.slice Ao16 t104.length co16, .slice Ao84 y137.length co84] 31 (0, 0)) (by (with_reducible repeat (first | refine blk_drewN ?_ _ | refine blk_drew ?_ | refine blk_alloc ?_ _)); refine blk_put (cs := #[.slice Ao16 t104.length co16, .slice (some ad114) t107.length co20]) ?_ 1 _ rfl; (with_reducible repeat (first | refine blk_drewN ?_ _ | refine blk_drew ?_ | refine blk_alloc ?_ _)); exact BK110.1) k_ hk_.2.1)⟩)) (below_size (pY25))); have n9_ := Aside0.mk (blk_below (g := gb101) (o := .cells #[.slice A0_0 l0_0.length c0_0, .slice A0_1 l0_1.length c0_1] 31 (0, 0)) (pY17) hb); have n10_ := Aside0.mk (blk_below (g := gb102) (o := .cells #[.slice none 0 0, .slice none 0 0] 31 (0, 0)) (pY18) hb); have n11_ := Aside0.mk (blk_below (g := gb110) (o := .cells #[.slice Ao16 t104.length co16, .slice Ao84 y137.length co84] 31 (0, 0)) (by (with_reducible repeat (first | refine blk_drewN ?_ _ | refine blk_drew ?_ | refine blk_alloc ?_ _)); refine blk_put (cs := #[.slice Ao16 t104.length co16, .slice (some ad114) t107.length co20]) ?_ 1 _ rfl; (with_reducible repeat (first | refine blk_drewN ?_ _ | refine blk_drew ?_ | refine blk_alloc ?_ _)); exact BK110.1) hb); have n12_ := Aside0.mk (below_step (pY25) hb); clear HO_111000; clear HO_111001; clear HL114_1; clear HL114_2; clear HO122; clear HO136; clear HO139; clear BK101; clear BK102; clear BK110; clear HB; have HO_111000 := n0_; have HO_111001 := n1_; have HL114_1 := n2_; have HL114_2 := n3_; have HO122 := n4_; have HO136 := n5_; have HO139 := n6_; have HO142 := n7_; have HO145 := n8_; have BK101 := n9_; have BK102 := n10_; have BK110 := n11_; have HB := n12_; clear n0_ n1_ n2_ n3_ n4_ n5_ n6_ n7_ n8_ n9_ n10_ n11_ n12_; (try clear hb); (try clear hb2); (try clear hk); (try clear hi); (try clear ho0); (try clear ho1); obtain ⟨Ao88, co88, eo88⟩ := Kd.R_slice HO142.1; subst eo88; have hnb89 := NB102_101.1; have hnc89 := NB101_102.1; have hcz90_0 : w87.cell? ⟨gb102, 0, none⟩ = some (.slice none 0 0) := (blk_cell BK102.1 0).trans rfl; have hcz90_1 : w87.cell? ⟨gb102, 1, none⟩ = some (.slice none 0 0) := (blk_cell BK102.1 1).trans rfl; have hfz90_0 := blk_frozen BK102.1 0; have hfz90_1 := blk_frozen BK102.1 1; obtain ⟨Ao91, co91, eo91⟩ := Kd.N_slice HO145.1; subst eo91))
                refine bodyPost_ret (results_ct rfl _ _ gb102 31 #[.slice Ao88 t140.length co88, .slice Ao91 t143.length co91] (0, 0) _ rfl (by (with_reducible repeat (first | refine blk_drewN ?_ _ | refine blk_drew ?_ | refine blk_alloc ?_ _)); refine blk_put (cs := #[.slice Ao88 t140.length co88, .slice none 0 0]) ?_ 1 _ rfl; (with_reducible repeat (first | refine blk_drewN ?_ _ | refine blk_drew ?_ | refine blk_alloc ?_ _)); refine blk_put (cs := #[.slice none 0 0, .slice none 0 0]) ?_ 0 _ rfl; (with_reducible repeat (first | refine blk_drewN ?_ _ | refine blk_drew ?_ | refine blk_alloc ?_ _)); exact BK102.1) Try.underlying31 rfl (by kernel_rfl)) rfl ?_
                exact ⟨_, _, by first | rfl | (simp [errW_none, errW_some] <;> rfl) | (simp [*, errW_none, errW_some] <;> rfl), by (with_reducible repeat (first | apply Kd.R_alloc | apply Kd.R_drewN | apply Kd.R_drew)); exact Kd.R_mono (Kd.R_far (p := ⟨gb102, 1, none⟩) (Kd.R_far (p := ⟨gb102, 0, none⟩) (Kd.R_types HO142.1 BK102.1 (by decide)) (fun _ hk => hk.2) (.slice Ao88 t140.length co88)) (fun _ hk => hk.2) (.slice Ao91 t143.length co91)) (fun _ hk => hk.1.1.1), by (with_reducible repeat (first | apply Kd.N_alloc | apply Kd.N_drewN | apply Kd.N_drew)); exact Kd.N_mono (Kd.N_far (p := ⟨gb102, 1, none⟩) (Kd.N_far (p := ⟨gb102, 0, none⟩) (Kd.N_mono HO145.1 (fun k_ hk => (⟨hk, hk.2.2.2.2.2.2.1⟩ : _ ∧ k_ ≠ gb102))) (fun _ hk => hk.2) (.slice Ao88 t140.length co88)) (fun _ hk => hk.2) (.slice Ao91 t143.length co91)) (fun _ hk => ⟨hk.1.1, hk.1.2.1⟩), pY25⟩
               ·rw [if_neg c69] at H
                exact absurd H (by simp)
              ·rw [if_neg c66] at H
               exact absurd H (by simp)
             ·rw [if_neg c64] at H
              exact absurd H (by simp)
            ·rw [if_neg c63] at H
             exact absurd H (by simp)
          ·rw [if_neg c57] at H
           exact absurd H (by simp)
         ·rw [if_neg c56] at H
          have c56b0 : decide (x9_2 < (t107.length : Int)) = false := decide_eq_false c56
          clear c56
          obtain ⟨y146, hy146⟩ : ∃ y_ : List (S56), y_ = (([] : List (S56))) := ⟨_, rfl⟩
          replace H : (if 0 ≤ x9_2 then (if x9_2 ≤ (t107.length : Int) then ((some (t107.take (x9_2 : Int).toNat : List (S56))).bind fun y149 => (if y146.length + y149.length < 2199023255552 then ((some (y146 ++ y149 : List (S56))).bind fun y154 => ((spec_l1Names.f l2).bind fun t157 => (if y154.length < 2199023255552 then ((some (y154 ++ [(⟨a1, ([] : List ByteArray), t157⟩ : S56)] : List (S56))).bind fun y160 => ((some (t107.drop (x9_2 : Int).toNat : List (S56))).bind fun y163 => (if y160.length + y163.length < 2199023255552 then ((spec_l1Copy.f k2 t104 (y160 ++ y163)).bind fun bt171 => (some (bt171.1, bt171.2, 0))) else (none)))) else (none)))) else (none))) else (none)) else (none)) = some (r1, r2, r3) := by first | (rw [hy146]; with_reducible exact H) | (have H2_ := (Option.bind_some _ _).symm.trans H; rw [hy146]; with_reducible exact H2_) | (have H2_ := (Option.bind_some _ _).symm.trans H; with_reducible exact H2_) | with_reducible exact H | (rw [hy146]; exact H) | exact H
          have Ny146 := Aside0.mk hy146
          clear hy146
          by_cases c92 : 0 ≤ x9_2
          ·rw [if_pos c92] at H
           have c92b0 := eq_true c92
           have c92b1 : decide (0 ≤ x9_2) = true := decide_eq_true c92
           clear c92
           by_cases c93 : x9_2 ≤ (t107.length : Int)
           ·rw [if_pos c93] at H
            have c93b0 := eq_true c93
            have c93b1 : decide (x9_2 ≤ (t107.length : Int)) = true := decide_eq_true c93
            clear c93
            obtain ⟨y149, hy149⟩ : ∃ y_ : List (S56), y_ = (t107.take (x9_2 : Int).toNat) := ⟨_, rfl⟩
            replace H : (if y146.length + y149.length < 2199023255552 then ((some (y146 ++ y149 : List (S56))).bind fun y154 => ((spec_l1Names.f l2).bind fun t157 => (if y154.length < 2199023255552 then ((some (y154 ++ [(⟨a1, ([] : List ByteArray), t157⟩ : S56)] : List (S56))).bind fun y160 => ((some (t107.drop (x9_2 : Int).toNat : List (S56))).bind fun y163 => (if y160.length + y163.length < 2199023255552 then ((spec_l1Copy.f k2 t104 (y160 ++ y163)).bind fun bt171 => (some (bt171.1, bt171.2, 0))) else (none)))) else (none)))) else (none)) = some (r1, r2, r3) := by first | (rw [hy149]; with_reducible exact H) | (have H2_ := (Option.bind_some _ _).symm.trans H; rw [hy149]; with_reducible exact H2_) | (have H2_ := (Option.bind_some _ _).symm.trans H; with_reducible exact H2_) | with_reducible exact H | (rw [hy149]; exact H) | exact H
            have Ny149 := Aside0.mk hy149
            clear hy149
            by_cases c94 : y146.length + y149.length < 2199023255552
            ·rw [if_pos c94] at H
             have LMc94 := Aside0.mk c94
             clear c94
             obtain ⟨y154, hy154⟩ : ∃ y_ : List (S56), y_ = (y146 ++ y149) := ⟨_, rfl⟩
             replace H : ((spec_l1Names.f l2).bind fun t157 => (if y154.length < 2199023255552 then ((some (y154 ++ [(⟨a1, ([] : List ByteArray), t157⟩ : S56)] : List (S56))).bind fun y160 => ((some (t107.drop (x9_2 : Int).toNat : List (S56))).bind fun y163 => (if y160.length + y163.length < 2199023255552 then ((spec_l1Copy.f k2 t104 (y160 ++ y163)).bind fun bt171 => (some (bt171.1, bt171.2, 0))) else (none)))) else (none))) = some (r1, r2, r3) := by first | (rw [hy154]; with_reducible exact H) | (have H2_ := (Option.bind_some _ _).symm.trans H; rw [hy154]; with_reducible exact H2_) | (have H2_ := (Option.bind_some _ _).symm.trans H; with_reducible exact H2_) | with_reducible exact H | (rw [hy154]; exact H) | exact H
             have Ny154 := Aside0.mk hy154
             clear hy154
             replace H := Option.bind_eq_some_iff.mp H
             obtain ⟨t157, A950, H⟩ := H
             replace H : (if y154.length < 2199023255552 then ((some (y154 ++ [(⟨a1, ([] : List ByteArray), t157⟩ : S56)] : List (S56))).bind fun y160 => ((some (t107.drop (x9_2 : Int).toNat : List (S56))).bind fun y163 => (if y160.length + y163.length < 2199023255552 then ((spec_l1Copy.f k2 t104 (y160 ++ y163)).bind fun bt171 => (some (bt171.1, bt171.2, 0))) else (none)))) else (none)) = some (r1, r2, r3) := H
             have A95 := Aside0.mk A950
             clear A950
             by_cases c96 : y154.length < 2199023255552
             ·rw [if_pos c96] at H
              have LMc96 := Aside0.mk c96
              clear c96
              obtain ⟨y160, hy160⟩ : ∃ y_ : List (S56), y_ = (y154 ++ [(⟨a1, ([] : List ByteArray), t157⟩ : S56)]) := ⟨_, rfl⟩
              replace H : ((some (t107.drop (x9_2 : Int).toNat : List (S56))).bind fun y163 => (if y160.length + y163.length < 2199023255552 then ((spec_l1Copy.f k2 t104 (y160 ++ y163)).bind fun bt171 => (some (bt171.1, bt171.2, 0))) else (none))) = some (r1, r2, r3) := by first | (rw [hy160]; with_reducible exact H) | (have H2_ := (Option.bind_some _ _).symm.trans H; rw [hy160]; with_reducible exact H2_) | (have H2_ := (Option.bind_some _ _).symm.trans H; with_reducible exact H2_) | with_reducible exact H | (rw [hy160]; exact H) | exact H
              have Ny160 := Aside0.mk hy160
              clear hy160
              have c97b0 := eq_true (of_decide_eq_true (pY50) : 0 ≤ x9_2)
              have c98b0 := eq_true (of_decide_eq_true (pY50) : x9_2 ≤ (t107.length : Int))
              obtain ⟨y163, hy163⟩ : ∃ y_ : List (S56), y_ = (t107.drop (x9_2 : Int).toNat) := ⟨_, rfl⟩
              replace H : (if y160.length + y163.length < 2199023255552 then ((spec_l1Copy.f k2 t104 (y160 ++ y163)).bind fun bt171 => (some (bt171.1, bt171.2, 0))) else (none)) = some (r1, r2, r3) := by first | (rw [hy163]; with_reducible exact H) | (have H2_ := (Option.bind_some _ _).symm.trans H; rw [hy163]; with_reducible exact H2_) | (have H2_ := (Option.bind_some _ _).symm.trans H; with_reducible exact H2_) | with_reducible exact H | (rw [hy163]; exact H) | exact H
              have Ny163 := Aside0.mk hy163
              clear hy163
              by_cases c99 : y160.length + y163.length < 2199023255552
              ·rw [if_pos c99] at H
               have LMc99 := Aside0.mk c99
               clear c99
               obtain ⟨y168, hy168⟩ : ∃ y_ : List (S56), y_ = (y160 ++ y163) := ⟨_, rfl⟩
               replace H : ((spec_l1Copy.f k2 t104 y168).bind fun bt171 => (some (bt171.1, bt171.2, 0))) = some (r1, r2, r3) := by first | (rw [hy168]; with_reducible exact H) | (have H2_ := (Option.bind_some _ _).symm.trans H; rw [hy168]; with_reducible exact H2_) | (have H2_ := (Option.bind_some _ _).symm.trans H; with_reducible exact H2_) | with_reducible exact H | (rw [hy168]; exact H) | exact H
               have Ny168 := Aside0.mk hy168
               clear hy168
               replace H := Option.bind_eq_some_iff.mp H
               obtain ⟨⟨t171, t174⟩, A1000, H⟩ := H
               replace H : (some (t171, t174, 0)) = some (r1, r2, r3) := H
               have A100 := Aside0.mk A1000
               clear A1000
               simp only [Option.some.injEq, Prod.mk.injEq] at H
               obtain ⟨rfl, rfl, rfl⟩ := H
               have hnb101 := NB110_101.1
               have hnc101 := NB101_110.1
               have hnb102 := NB110_102.1
               have hnc102 := NB102_110.1
               have hcz103_0 : wr.cell? ⟨gb110, 0, none⟩ = some (.slice Ao16 t104.length co16) := (blk_cell BK110.1 0).trans rfl
               have hcz103_1 : wr.cell? ⟨gb110, 1, none⟩ = some (.slice Ao20 t107.length co20) := (blk_cell BK110.1 1).trans rfl
               have hfz103_0 := blk_frozen BK110.1 0
               have hfz103_1 := blk_frozen BK110.1 1
               try go_wp2
               have n0_ := Aside0.mk (Kd.R_drew HO_111000.1)
               have n1_ := Aside0.mk (Kd.N_drew HO_111001.1)
               have n2_ := Aside0.mk (blk_drew BK101.1)
               have n3_ := Aside0.mk (blk_drew BK102.1)
               have n4_ := Aside0.mk (blk_drew BK110.1)
               have n5_ := Aside0.mk (below_drew1 HB.1)
               clear HO_111000
               clear HO_111001
               clear BK101
               clear BK102
               clear BK110
               clear HB
               have HO_111000 := n0_
               have HO_111001 := n1_
               have BK101 := n2_
               have BK102 := n3_
               have BK110 := n4_
               have HB := n5_
               clear n0_ n1_ n2_ n3_ n4_ n5_
               have q105 : (x9_2 : Int) ≤ ((t107.length : Int) : Int) := of_decide_eq_true (pY50)
               obtain ⟨i0105, hi0105, _, hsz105, _⟩ := info_parts info56
               have hroom105 : t107.length ≤ co20 := (Kd.N_reads' HO_111001.1).2.1
               have hC105 : Kd.F k56 _ _ Ao20 t107.length t107 := (Kd.V_at (base := w.heap.size) (Kd.N_V HO_111001.1)).2.2
               have hcut105 := cut_to (P := Try.prog) 29 56 .i64 Try.underlying29 hi0105 Ao20 t107.length co20 x9_2 (of_decide_eq_true (pY50)) q105 hroom105
               have hr105 := Kd.F_take (m := (x9_2 : Int).toNat) hC105 (by omega)
               have hy105 : y149.length = (x9_2 : Int).toNat := (by rw [Ny149.out, List.length_take]; omega)
               rw [← Ny149.out] at hr105
               rw [← hy105] at hcut105
               have HO153 := Aside0.mk (show Kd.V k56 56 _ w.heap.size _ (.slice Ao20 y149.length co20) y149 from Kd.V_mk (by omega) hr105)
               have HC153 := Aside0.mk (show y149.length ≤ co20 from by omega)
               clear hr105 hC105 hroom105 hi0105 hsz105
               have KY105 := Aside0.mk hy105
               clear hy105
               replace q105 := eq_true q105
               have q106 : (x9_2 : Int) ≤ ((t107.length : Int) : Int) := of_decide_eq_true (pY50)
               obtain ⟨i0106, hi0106, _, hsz106, _⟩ := info_parts info56
               have hroom106 : t107.length ≤ co20 := (Kd.N_reads' HO_111001.1).2.1
               have hC106 : Kd.F k56 _ _ Ao20 t107.length t107 := (Kd.V_at (base := w.heap.size) (Kd.N_V HO_111001.1)).2.2
               have q0106 : (0 : Int) ≤ (x9_2 : Int) := of_decide_eq_true (pY50)
               have hcut106 := cut_from (P := Try.prog) 29 56 .i64 Try.underlying29 hi0106 3 hsz106 Ao20 t107.length co20 x9_2 q0106 q106
               have hr106 := Kd.F_cut (m := (x9_2 : Int).toNat) (c := co20) hC106 (by omega) hroom106
               obtain ⟨A106, hA106⟩ : ∃ A1, A1 = (if co20 = (x9_2 : Int).toNat then Ao20 else (Ao20 : Option Addr).map (·.add ((x9_2 : Int).toNat * 3))) := ⟨_, rfl⟩
               obtain ⟨c106, hc106⟩ : ∃ c1, c1 = co20 - (x9_2 : Int).toNat := ⟨_, rfl⟩
               have hy106 : y163.length = t107.length - (x9_2 : Int).toNat := (by rw [Ny163.out, List.length_drop] <;> omega)
               rw [show (t107).drop (x9_2 : Int).toNat = y163 from Ny163.out.symm] at hr106
               replace hr106 : Kd.F k56 _ _ A106 y163.length y163 := (by rw [hA106]; exact hr106)
               rw [← hy106, ← hA106, ← hc106] at hcut106
               have HO167 := Aside0.mk (show Kd.V k56 56 _ w.heap.size _ (.slice A106 y163.length c106) y163 from Kd.V_mk (by rw [hy106, hc106]; exact Nat.sub_le_sub_right hroom106 _) hr106)
               have HC167 := Aside0.mk (show y163.length ≤ c106 from by rw [hy106, hc106]; exact Nat.sub_le_sub_right hroom106 _)
               clear hr106 hC106 hroom106 hi0106 hsz106 hc106
               have KY106 := Aside0.mk hy106
               have KA106 := Aside0.mk hA106
               clear hy106 hA106
               replace q106 := eq_true q106
               refine start_ (n := 19) (S := fun w' => w'.cell? ⟨gb110, 0, none⟩ = some (.slice Ao16 t104.length co16) ∧ w'.cell? ⟨gb110, 1, none⟩ = some (.slice Ao20 t107.length co20)) (ds := [18]) #[ff,ff,ff,ff,ff,ff,ff,ff,ff,ff,ff,ff,ff,ff,ff,ff,ff,ff,ff] (by kernel_rfl) rfl rfl ⟨(blk_cell BK110.1 0).trans rfl, (blk_cell BK110.1 1).trans rfl⟩ (fun hHeld => ?_); refine with_tabW spec_ShareEnter.tab13 spec_ShareEnter.bits13 (fun HT_ HW_ => ?_)
               generalize wr.drew = w104 at HO_111000 HO_111001 BK101 BK102 BK110 HB HO153 HO167 hHeld ⊢
               refine pU (i := 1) (N := some 55) #[ff,tt,ff,ff,ff,ff,ff,ff,ff,ff,ff,ff,ff,ff,ff,ff,ff,ff,ff] ?_
               refine pU (i := 3) (N := some 57) #[ff,tt,ff,tt,ff,ff,ff,ff,ff,ff,ff,ff,ff,ff,ff,ff,ff,ff,ff] ?_
               refine pU (i := 6) (N := some 60) #[ff,tt,ff,tt,ff,ff,tt,ff,ff,ff,ff,ff,ff,ff,ff,ff,ff,ff,ff] ?_
               refine pU (i := 7) (N := some 61) #[ff,tt,ff,tt,ff,ff,tt,tt,ff,ff,ff,ff,ff,ff,ff,ff,ff,ff,ff] ?_
               refine pU (i := 12) (N := some 66) #[ff,tt,ff,tt,ff,ff,tt,tt,ff,ff,ff,ff,tt,ff,ff,ff,ff,ff,ff] ?_
               refine pU (i := 14) (N := some 68) #[ff,tt,ff,tt,ff,ff,tt,tt,ff,ff,ff,ff,tt,ff,tt,ff,ff,ff,ff] ?_
               refine tK2 (i := 2) (N := some 56) #[ff,tt,tt,tt,ff,ff,tt,tt,ff,ff,ff,ff,tt,ff,tt,ff,ff,ff,ff] ?_
               refine pU (i := 4) (N := some 58) #[ff,tt,tt,tt,tt,ff,tt,tt,ff,ff,ff,ff,tt,ff,tt,ff,ff,ff,ff] ?_
               refine tK2 (i := 13) (N := some 67) #[ff,tt,tt,tt,tt,ff,tt,tt,ff,ff,ff,ff,tt,tt,tt,ff,ff,ff,ff] ?_
               refine pU (i := 15) (N := some 69) #[ff,tt,tt,tt,tt,ff,tt,tt,ff,ff,ff,ff,tt,tt,tt,tt,ff,ff,ff] ?_
               refine one_ (i := 0) (N := some 54) #[tt,tt,tt,tt,tt,ff,tt,tt,ff,ff,ff,ff,tt,tt,tt,tt,ff,ff,ff] rfl rfl (one_of HT_.out (by kernel_rfl)) (by decide) (fun K hK => ?_)
               refine Kd.N_lit_step k56 _ 56 ?hg (N' := 54) ?hd (xs := ([] : List (S56))) (inner := []) (ok := (fun k_ => (w.heap.size ≤ k_) ∧ some k_ ≠ (.slice Ao16 t104.length co16 : Value).ownBlock ∧ some k_ ≠ (.slice Ao20 t107.length co20 : Value).ownBlock ∧ k_ ≠ gb101 ∧ k_ ≠ gb102 ∧ k_ ≠ gb110)) (okp := (fun k_ => (w.heap.size ≤ k_) ∧ some k_ ≠ (.slice Ao16 t104.length co16 : Value).ownBlock ∧ some k_ ≠ (.slice Ao20 t107.length co20 : Value).ownBlock ∧ k_ ≠ gb101 ∧ k_ ≠ gb102 ∧ k_ ≠ gb110)) ?hr ?hp (fun _ hk => hk) ((show ∀ k_, w104.heap.size ≤ k_ → (fun k_ => (w.heap.size ≤ k_) ∧ some k_ ≠ (.slice Ao16 t104.length co16 : Value).ownBlock ∧ some k_ ≠ (.slice Ao20 t107.length co20 : Value).ownBlock ∧ k_ ≠ gb101 ∧ k_ ≠ gb102 ∧ k_ ≠ gb110) k_ from fun k_ hk => ⟨(Nat.le_trans (below_size (pY25)) hk), Kd.fresh' (Kd.R_lt (pY45)) k_ hk, Kd.fresh' (Kd.N_lt (pY46)) k_ hk, Kd.freshB (g := gb101) (o := .cells #[.slice A0_0 l0_0.length c0_0, .slice A0_1 l0_1.length c0_1] 31 (0, 0)) (pY38) k_ hk, Kd.freshB (g := gb102) (o := .cells #[.slice none 0 0, .slice none 0 0] 31 (0, 0)) (pY39) k_ hk, Kd.freshB (g := gb110) (o := .cells #[.slice Ao16 t104.length co16, .slice Ao20 t107.length co20] 31 (0, 0)) (pY41) k_ hk⟩) _ (Nat.le_refl _)) (Below.refl _ _) (Nat.le_refl _) (by simp) ?_; (case hd => rfl); (case hg => rfl); (case hr => first | (go_simp; done) | (go_simp; rfl)); (case hp => exact (Reps.none _ _))
               intro v147 w107 ho108 hb hg_ hnew_
               clear hg_ hnew_
               (first | rw [← Ny146.out] at ho108 | (simp only [Int.reduceToNat] at ho108; rw [← Ny146.out] at ho108))
               have n0_ := Aside0.mk (Kd.R_below (pY45) hb)
               have n1_ := Aside0.mk (Kd.N_elder' (pY46) (by first | exact Kd.N_base ho108 | exact Kd.S_base ho108) hb)
               have n2_ := Aside0.mk (Kd.V_elder' (by (with_reducible repeat (first | apply Kd.V_alloc | apply Kd.V_drewN | apply Kd.V_drew)); exact HO153.1) (by first | exact Kd.N_base ho108 | exact Kd.S_base ho108) hb)
               have n3_ := Aside0.mk (Kd.V_elder' (by (with_reducible repeat (first | apply Kd.V_alloc | apply Kd.V_drewN | apply Kd.V_drew)); exact HO167.1) (by first | exact Kd.N_base ho108 | exact Kd.S_base ho108) hb)
               have n4_ := Aside0.mk (Kd.N_lower ho108 (below_size (pY25)))
               have n5_ := Aside0.mk (blk_below (g := gb101) (o := .cells #[.slice A0_0 l0_0.length c0_0, .slice A0_1 l0_1.length c0_1] 31 (0, 0)) (pY38) hb)
               have n6_ := Aside0.mk (blk_below (g := gb102) (o := .cells #[.slice none 0 0, .slice none 0 0] 31 (0, 0)) (pY39) hb)
               have n7_ := Aside0.mk (blk_below (g := gb110) (o := .cells #[.slice Ao16 t104.length co16, .slice Ao20 t107.length co20] 31 (0, 0)) (pY41) hb)
               have n8_ := Aside0.mk (below_step (pY25) hb)
               clear HO_111000
               clear HO_111001
               clear HO153
               clear HO167
               clear BK101
               clear BK102
               clear BK110
               clear HB
               have HO_111000 := n0_
               have HO_111001 := n1_
               have HO153 := n2_
               have HO167 := n3_
               have HO148 := n4_
               have BK101 := n5_
               have BK102 := n6_
               have BK110 := n7_
               have HB := n8_
               clear n0_ n1_ n2_ n3_ n4_ n5_ n6_ n7_ n8_
               clear hb ho108
               refine hK.out _ _ ⟨(blk_cell BK110.1 0).trans rfl, (blk_cell BK110.1 1).trans rfl⟩ (fun hHeld => ?_)
               clear hK K
               refine norm_ (a' := ?_) ?_ ?_
               rotate_left
               ·show Act.put _ (some 54) _ = _
                simp only [pW]
                rfl
               refine one_ (i := 5) (N := some 59) #[tt,tt,tt,tt,tt,tt,tt,tt,ff,ff,ff,ff,tt,tt,tt,tt,ff,ff,ff] rfl rfl (one_of HT_.out (by kernel_rfl)) (by decide) (fun K hK => ?_)
               refine Kd.N_append_rows_step k56 (w0 := w) w.heap.size (by rfl) (.tmp 54) (.tmp 58) 29 56 (.agg #[(.string ⟨#[]⟩), (.slice none 0 0), (.slice none 0 0)]) 64 rfl Try.underlying29 info56 rfl (by decide) (by omega) v147 y146 y149 _ _ _ (fun k_ => (w.heap.size ≤ k_) ∧ some k_ ≠ (.slice Ao16 t104.length co16 : Value).ownBlock ∧ k_ ≠ gb101 ∧ k_ ≠ gb102 ∧ k_ ≠ gb110) (fun k_ => ((fun k_ => (w.heap.size ≤ k_) ∧ some k_ ≠ (.slice Ao16 t104.length co16 : Value).ownBlock ∧ k_ ≠ gb101 ∧ k_ ≠ gb102 ∧ k_ ≠ gb110)) k_ ∧ some k_ ≠ (v147 : Value).ownBlock) rfl rfl ?aO ?aR (fun _ hk => hk) ?aF ?aB ?aS ?aL ?_
               (case aR => exact (by skip; exact Kd.V_F (Kd.V_mono (ok' := (fun k_ => ((fun k_ => (w.heap.size ≤ k_) ∧ some k_ ≠ (.slice Ao16 t104.length co16 : Value).ownBlock ∧ k_ ≠ gb101 ∧ k_ ≠ gb102 ∧ k_ ≠ gb110)) k_ ∧ some k_ ≠ (v147 : Value).ownBlock)) (HO153.1) (fun k_ hk => ⟨⟨hk.1.1, ⟨hk.1.2.1, ⟨hk.1.2.2.1, ⟨hk.1.2.2.2.1, hk.1.2.2.2.2⟩⟩⟩⟩, hk.2⟩))))
               (case aB => exact (pY25))
               (case aF => exact (fun k_ hk => ⟨(Nat.le_trans (below_size (pY25)) hk), Kd.fresh' (Kd.R_lt (pY45)) k_ hk, Kd.freshB (g := gb101) (o := .cells #[.slice A0_0 l0_0.length c0_0, .slice A0_1 l0_1.length c0_1] 31 (0, 0)) (pY38) k_ hk, Kd.freshB (g := gb102) (o := .cells #[.slice none 0 0, .slice none 0 0] 31 (0, 0)) (pY39) k_ hk, Kd.freshB (g := gb110) (o := .cells #[.slice Ao16 t104.length co16, .slice Ao20 t107.length co20] 31 (0, 0)) (pY41) k_ hk⟩))
               (case aO => exact (by (with_reducible repeat (first | apply Kd.N_alloc | apply Kd.N_drewN | apply Kd.N_drew)); exact Kd.N_mono HO148.1 (fun _ hk => ⟨hk.1, ⟨hk.2.1, ⟨hk.2.2.2.1, ⟨hk.2.2.2.2.1, hk.2.2.2.2.2⟩⟩⟩⟩)))
               (case aS => exact (below_size (pY25)))
               (case aL => have := LMc94.out; omega)
               intro v155 w109 ho hb hg hat
               rw [← Ny154.out] at ho
               have n0_ := Aside0.mk (Kd.R_over' (pY45) (Kd.N_typed (by (with_reducible repeat (first | apply Kd.N_alloc | apply Kd.N_drewN | apply Kd.N_drew)); exact HO148.1)) (by decide) hg)
               have n1_ := Aside0.mk (Kd.N_afterv (ok := (fun k_ => (w.heap.size ≤ k_) ∧ some k_ ≠ (.slice Ao16 t104.length co16 : Value).ownBlock ∧ k_ ≠ gb101 ∧ k_ ≠ gb102 ∧ k_ ≠ gb110)) (pY46) hg hat)
               have n2_ := Aside0.mk (blk_grown (g := gb101) (o := .cells #[.slice A0_0 l0_0.length c0_0, .slice A0_1 l0_1.length c0_1] 31 (0, 0)) (pY38) hg (Kd.N_ne HO148.1 BK101.1 (by decide)))
               have n3_ := Aside0.mk (blk_grown (g := gb102) (o := .cells #[.slice none 0 0, .slice none 0 0] 31 (0, 0)) (pY39) hg (Kd.N_ne HO148.1 BK102.1 (by decide)))
               have n4_ := Aside0.mk (blk_grown (g := gb110) (o := .cells #[.slice Ao16 t104.length co16, .slice Ao20 t107.length co20] 31 (0, 0)) (pY41) hg (Kd.N_ne HO148.1 BK110.1 (by decide)))
               have n5_ := Aside0.mk (Kd.V_afterv (ok := (fun k_ => (w.heap.size ≤ k_) ∧ some k_ ≠ (.slice Ao16 t104.length co16 : Value).ownBlock ∧ k_ ≠ gb101 ∧ k_ ≠ gb102 ∧ k_ ≠ gb110)) (by (with_reducible repeat (first | apply Kd.V_alloc | apply Kd.V_drewN | apply Kd.V_drew)); exact HO153.1) hg hat)
               have n6_ := Aside0.mk (Kd.V_afterv (ok := (fun k_ => (w.heap.size ≤ k_) ∧ some k_ ≠ (.slice Ao16 t104.length co16 : Value).ownBlock ∧ k_ ≠ gb101 ∧ k_ ≠ gb102 ∧ k_ ≠ gb110)) (by (with_reducible repeat (first | apply Kd.V_alloc | apply Kd.V_drewN | apply Kd.V_drew)); exact HO167.1) hg hat)
               have n7_ := Aside0.mk (hb)
               have n8_ := Aside0.mk (ho)
               clear HO_111000
               clear HO_111001
               clear BK101
               clear BK102
               clear BK110
               clear HO153
               clear HO167
               clear HB
               clear HO148
               have HO_111000 := n0_
               have HO_111001 := n1_
               have BK101 := n2_
               have BK102 := n3_
               have BK110 := n4_
               have HO153 := n5_
               have HO167 := n6_
               have HB := n7_
               have HO156 := n8_
               clear n0_ n1_ n2_ n3_ n4_ n5_ n6_ n7_ n8_
               clear ho hb hg hat
               refine hK.out _ _ ⟨(blk_cell BK110.1 0).trans rfl, (blk_cell BK110.1 1).trans rfl⟩ (fun hHeld => ?_)
               clear hK K
               refine norm_ (a' := ?_) ?_ ?_
               rotate_left
               ·show Act.put _ (some 59) _ = _
                simp only [pW]
                rfl
               refine one_ (i := 8) (N := some 62) #[tt,tt,tt,tt,tt,tt,tt,tt,tt,ff,ff,ff,tt,tt,tt,tt,ff,ff,ff] rfl rfl (one_of HT_.out (by kernel_rfl)) (by decide) (fun K hK => ?_)
               refine goes_ Try.func93 (by kernel_rfl) rfl #[.slice A2 l2.length c2] (by rfl) rfl rfl (pY36) ?_
               with_reducible refine (spec_l1Names.calls _ _ l2 t157 _ ?side1 ?side2 A95.out).mono ?_
               (case side1 => exact pC (Kd.C_below HR2.1 HB.1))
               (case side2 => exact HC2.1)
               rintro e w110 ⟨v158, rfl, ho0, hb⟩
               refine ⟨_, rfl, ?_⟩
               have n0_ := Aside0.mk (Kd.R_elder' (pY45) (Kd.R_base ho0) hb)
               have n1_ := Aside0.mk (Kd.N_elder' (pY46) (Kd.R_base ho0) hb)
               have n2_ := Aside0.mk (Kd.V_elder' (by (with_reducible repeat (first | apply Kd.V_alloc | apply Kd.V_drewN | apply Kd.V_drew)); exact HO153.1) (Kd.R_base ho0) hb)
               have n3_ := Aside0.mk (Kd.V_elder' (by (with_reducible repeat (first | apply Kd.V_alloc | apply Kd.V_drewN | apply Kd.V_drew)); exact HO167.1) (Kd.R_base ho0) hb)
               have n4_ := Aside0.mk (Kd.N_elder' (by (with_reducible repeat (first | apply Kd.N_alloc | apply Kd.N_drewN | apply Kd.N_drew)); exact HO156.1) (Kd.R_base ho0) hb)
               have n5_ := Aside0.mk (Kd.R_lower (Kd.R_new' (Kd.R_newM (M := fun k_ => (w.heap.size ≤ k_)) ho0 (below_size (pY25)) (fun k_ h_ => h_)) (Kd.R_lt (pY45))) (below_size (pY25)))
               have n6_ := Aside0.mk (blk_below (g := gb101) (o := .cells #[.slice A0_0 l0_0.length c0_0, .slice A0_1 l0_1.length c0_1] 31 (0, 0)) (pY38) hb)
               have n7_ := Aside0.mk (blk_below (g := gb102) (o := .cells #[.slice none 0 0, .slice none 0 0] 31 (0, 0)) (pY39) hb)
               have n8_ := Aside0.mk (blk_below (g := gb110) (o := .cells #[.slice Ao16 t104.length co16, .slice Ao20 t107.length co20] 31 (0, 0)) (pY41) hb)
               have n9_ := Aside0.mk (below_step (pY25) hb)
               clear HO_111000
               clear HO_111001
               clear HO153
               clear HO167
               clear HO156
               clear BK101
               clear BK102
               clear BK110
               clear HB
               have HO_111000 := n0_
               have HO_111001 := n1_
               have HO153 := n2_
               have HO167 := n3_
               have HO156 := n4_
               have HO159 := n5_
               have BK101 := n6_
               have BK102 := n7_
               have BK110 := n8_
               have HB := n9_
               clear n0_ n1_ n2_ n3_ n4_ n5_ n6_ n7_ n8_ n9_
               (try clear hb)
               (try clear hb2)
               (try clear hk)
               (try clear hi)
               (try clear ho0)
               obtain ⟨Ao111, co111, eo111⟩ := Kd.R_slice HO159.1
               (first | subst eo111 | (injection eo111 with f1_ f2_ f3_; have f4_ := f1_.symm; have f5_ := f3_.symm; clear f1_ f2_ f3_; subst f4_; subst f5_))
               refine hK.out _ _ ⟨(blk_cell BK110.1 0).trans rfl, (blk_cell BK110.1 1).trans rfl⟩ (fun hHeld => ?_)
               clear hK K
               refine norm_ (a' := ?_) ?_ ?_
               rotate_left
               ·show Act.put _ (some 62) _ = _
                simp only [pW]
                rfl
               refine pU (i := 9) (N := some 63) #[tt,tt,tt,tt,tt,tt,tt,tt,tt,tt,ff,ff,tt,tt,tt,tt,ff,ff,ff] ?_
               refine one_ (i := 10) (N := some 64) #[tt,tt,tt,tt,tt,tt,tt,tt,tt,tt,tt,ff,tt,tt,tt,tt,ff,ff,ff] rfl rfl (one_of HT_.out (by kernel_rfl)) (by decide) (fun K hK => ?_)
               refine value_ (w1 := ?_) (v := ?_) (by rfl) rfl ?_ ?_
               rotate_left 2
               ·go_simp
                constructor
                ·rfl
                ·rfl
               refine hK.out _ _ ⟨(blk_cell (blk_alloc BK110.1 _) 0).trans rfl, (blk_cell (blk_alloc BK110.1 _) 1).trans rfl⟩ (fun hHeld => ?_)
               clear hK K
               refine norm_ (a' := ?_) ?_ ?_
               rotate_left
               ·show Act.put _ (some 64) _ = _
                simp only [pW]
                rfl
               refine one_ (i := 11) (N := some 65) #[tt,tt,tt,tt,tt,tt,tt,tt,tt,tt,tt,tt,tt,tt,tt,tt,ff,ff,ff] rfl rfl (one_of HT_.out (by kernel_rfl)) (by decide) (fun K hK => ?_)
               refine Kd.N_append_step k56 (w0 := w) w.heap.size (by rfl) (.tmp 59) (.tmp 64) 29 56 (.agg #[(.string ⟨#[]⟩), (.slice none 0 0), (.slice none 0 0)]) 64 rfl Try.underlying29 info56 rfl (by decide) (by omega) v155 y154 (⟨a1, ([] : List ByteArray), t157⟩ : S56) [.string a1, .slice none 0 0, .slice Ao111 t157.length co111] (fun k_ => (w.heap.size ≤ k_) ∧ some k_ ≠ (.slice Ao16 t104.length co16 : Value).ownBlock ∧ k_ ≠ gb101 ∧ k_ ≠ gb102 ∧ k_ ≠ gb110) (fun k_ => ((fun k_ => (w.heap.size ≤ k_) ∧ some k_ ≠ (.slice Ao16 t104.length co16 : Value).ownBlock ∧ k_ ≠ gb101 ∧ k_ ≠ gb102 ∧ k_ ≠ gb110)) k_ ∧ some k_ ≠ (v155 : Value).ownBlock) rfl rfl ?aP (fun _ hk => hk) ?aF ?aO ?aB ?aS ?aL ?_
               (case aP => exact (k56_mkF _ _ (⟨a1, ([] : List ByteArray), t157⟩ : S56) (Nat.le_refl _) (Kd.F_nil _ _ _) (Kd.R_reads' (Kd.R_mono (ok' := (fun k_ => ((fun k_ => (w.heap.size ≤ k_) ∧ some k_ ≠ (.slice Ao16 t104.length co16 : Value).ownBlock ∧ k_ ≠ gb101 ∧ k_ ≠ gb102 ∧ k_ ≠ gb110)) k_ ∧ some k_ ≠ (v155 : Value).ownBlock)) (Kd.R_types (Kd.R_types (Kd.R_types (Kd.R_apart' (HO159.1) (Kd.N_typed HO156.1) (by decide)) BK101.1 (by decide)) BK102.1 (by decide)) BK110.1 (by decide)) (fun k_ hk => ⟨⟨hk.1.1.1.1.1.1, ⟨hk.1.1.1.1.2, ⟨hk.1.1.2, ⟨hk.1.2, hk.2⟩⟩⟩⟩, hk.1.1.1.2⟩))).2.1 (Kd.R_F (Kd.R_mono (ok' := (fun k_ => ((fun k_ => (w.heap.size ≤ k_) ∧ some k_ ≠ (.slice Ao16 t104.length co16 : Value).ownBlock ∧ k_ ≠ gb101 ∧ k_ ≠ gb102 ∧ k_ ≠ gb110)) k_ ∧ some k_ ≠ (v155 : Value).ownBlock)) (Kd.R_types (Kd.R_types (Kd.R_types (Kd.R_apart' (HO159.1) (Kd.N_typed HO156.1) (by decide)) BK101.1 (by decide)) BK102.1 (by decide)) BK110.1 (by decide)) (fun k_ hk => ⟨⟨hk.1.1.1.1.1.1, ⟨hk.1.1.1.1.2, ⟨hk.1.1.2, ⟨hk.1.2, hk.2⟩⟩⟩⟩, hk.1.1.1.2⟩)))))
               (case aB => exact (pY25))
               (case aF => exact (fun k_ hk => ⟨(Nat.le_trans (below_size (pY25)) hk), Kd.fresh' (Kd.R_lt (pY45)) k_ hk, Kd.freshB (g := gb101) (o := .cells #[.slice A0_0 l0_0.length c0_0, .slice A0_1 l0_1.length c0_1] 31 (0, 0)) (pY38) k_ hk, Kd.freshB (g := gb102) (o := .cells #[.slice none 0 0, .slice none 0 0] 31 (0, 0)) (pY39) k_ hk, Kd.freshB (g := gb110) (o := .cells #[.slice Ao16 t104.length co16, .slice Ao20 t107.length co20] 31 (0, 0)) (pY41) k_ hk⟩))
               (case aO => exact (by (with_reducible repeat (first | apply Kd.N_alloc | apply Kd.N_drewN | apply Kd.N_drew)); exact Kd.N_mono HO156.1 (fun _ hk => ⟨hk.1.1, ⟨hk.1.2.1, ⟨hk.1.2.2.1, ⟨hk.1.2.2.2.1, hk.1.2.2.2.2⟩⟩⟩⟩)))
               (case aS => exact (below_size (pY25)))
               (case aL => have := LMc96.out; omega)
               intro v161 w112 ho hb hg hat
               rw [← Ny160.out] at ho
               have n0_ := Aside0.mk (Kd.R_over' (pY45) (Kd.N_typed (by (with_reducible repeat (first | apply Kd.N_alloc | apply Kd.N_drewN | apply Kd.N_drew)); exact HO156.1)) (by decide) hg)
               have n1_ := Aside0.mk (Kd.N_afterv (ok := (fun k_ => (w.heap.size ≤ k_) ∧ some k_ ≠ (.slice Ao16 t104.length co16 : Value).ownBlock ∧ some k_ ≠ (.slice Ao111 t157.length co111 : Value).ownBlock ∧ k_ ≠ gb101 ∧ k_ ≠ gb102 ∧ k_ ≠ gb110)) (by (with_reducible repeat (first | apply Kd.N_alloc | apply Kd.N_drewN | apply Kd.N_drew)); exact Kd.N_mono HO_111001.1 (fun _ hk => ⟨⟨hk.1.1.1, ⟨hk.1.1.2.1, ⟨hk.2, ⟨hk.1.1.2.2.1, ⟨hk.1.1.2.2.2.1, hk.1.1.2.2.2.2⟩⟩⟩⟩⟩, hk.1.2⟩)) hg hat)
               have n2_ := Aside0.mk (blk_grown (g := gb101) (o := .cells #[.slice A0_0 l0_0.length c0_0, .slice A0_1 l0_1.length c0_1] 31 (0, 0)) (pY38) hg (Kd.N_ne HO156.1 BK101.1 (by decide)))
               have n3_ := Aside0.mk (blk_grown (g := gb102) (o := .cells #[.slice none 0 0, .slice none 0 0] 31 (0, 0)) (pY39) hg (Kd.N_ne HO156.1 BK102.1 (by decide)))
               have n4_ := Aside0.mk (blk_grown (g := gb110) (o := .cells #[.slice Ao16 t104.length co16, .slice Ao20 t107.length co20] 31 (0, 0)) (pY41) hg (Kd.N_ne HO156.1 BK110.1 (by decide)))
               have n5_ := Aside0.mk (Kd.V_afterv (ok := (fun k_ => (w.heap.size ≤ k_) ∧ some k_ ≠ (.slice Ao16 t104.length co16 : Value).ownBlock ∧ some k_ ≠ (.slice Ao111 t157.length co111 : Value).ownBlock ∧ k_ ≠ gb101 ∧ k_ ≠ gb102 ∧ k_ ≠ gb110)) (by (with_reducible repeat (first | apply Kd.V_alloc | apply Kd.V_drewN | apply Kd.V_drew)); exact Kd.V_mono HO153.1 (fun _ hk => ⟨⟨hk.1.1.1, ⟨hk.1.1.2.1, ⟨hk.2, ⟨hk.1.1.2.2.1, ⟨hk.1.1.2.2.2.1, hk.1.1.2.2.2.2⟩⟩⟩⟩⟩, hk.1.2⟩)) hg hat)
               have n6_ := Aside0.mk (Kd.V_afterv (ok := (fun k_ => (w.heap.size ≤ k_) ∧ some k_ ≠ (.slice Ao16 t104.length co16 : Value).ownBlock ∧ some k_ ≠ (.slice Ao111 t157.length co111 : Value).ownBlock ∧ k_ ≠ gb101 ∧ k_ ≠ gb102 ∧ k_ ≠ gb110)) (by (with_reducible repeat (first | apply Kd.V_alloc | apply Kd.V_drewN | apply Kd.V_drew)); exact Kd.V_mono HO167.1 (fun _ hk => ⟨⟨hk.1.1.1, ⟨hk.1.1.2.1, ⟨hk.2, ⟨hk.1.1.2.2.1, ⟨hk.1.1.2.2.2.1, hk.1.1.2.2.2.2⟩⟩⟩⟩⟩, hk.1.2⟩)) hg hat)
               have n7_ := Aside0.mk (hb)
               have n8_ := Aside0.mk (ho)
               clear HO_111000
               clear HO_111001
               clear BK101
               clear BK102
               clear BK110
               clear HO153
               clear HO167
               clear HB
               clear HO156
               clear HO159
               have HO_111000 := n0_
               have HO_111001 := n1_
               have BK101 := n2_
               have BK102 := n3_
               have BK110 := n4_
               have HO153 := n5_
               have HO167 := n6_
               have HB := n7_
               have HO162 := n8_
               clear n0_ n1_ n2_ n3_ n4_ n5_ n6_ n7_ n8_
               clear ho hb hg hat
               refine hK.out _ _ ⟨(blk_cell BK110.1 0).trans rfl, (blk_cell BK110.1 1).trans rfl⟩ (fun hHeld => ?_)
               clear hK K
               refine norm_ (a' := ?_) ?_ ?_
               rotate_left
               ·show Act.put _ (some 65) _ = _
                simp only [pW]
                rfl
               refine one_ (i := 16) (N := some 70) #[tt,tt,tt,tt,tt,tt,tt,tt,tt,tt,tt,tt,tt,tt,tt,tt,tt,ff,ff] rfl rfl (one_of HT_.out (by kernel_rfl)) (by decide) (fun K hK => ?_)
               refine Kd.N_append_rows_step k56 (w0 := w) w.heap.size (by rfl) (.tmp 65) (.tmp 69) 29 56 (.agg #[(.string ⟨#[]⟩), (.slice none 0 0), (.slice none 0 0)]) 64 rfl Try.underlying29 info56 rfl (by decide) (by omega) v161 y160 y163 _ _ _ (fun k_ => (w.heap.size ≤ k_) ∧ some k_ ≠ (.slice Ao16 t104.length co16 : Value).ownBlock ∧ k_ ≠ gb101 ∧ k_ ≠ gb102 ∧ k_ ≠ gb110) (fun k_ => ((fun k_ => (w.heap.size ≤ k_) ∧ some k_ ≠ (.slice Ao16 t104.length co16 : Value).ownBlock ∧ k_ ≠ gb101 ∧ k_ ≠ gb102 ∧ k_ ≠ gb110)) k_ ∧ some k_ ≠ (v161 : Value).ownBlock) rfl rfl ?aO ?aR (fun _ hk => hk) ?aF ?aB ?aS ?aL ?_
               (case aR => exact (by skip; exact Kd.V_F (Kd.V_mono (ok' := (fun k_ => ((fun k_ => (w.heap.size ≤ k_) ∧ some k_ ≠ (.slice Ao16 t104.length co16 : Value).ownBlock ∧ k_ ≠ gb101 ∧ k_ ≠ gb102 ∧ k_ ≠ gb110)) k_ ∧ some k_ ≠ (v161 : Value).ownBlock)) (HO167.1) (fun k_ hk => ⟨⟨hk.1.1, ⟨hk.1.2.1, ⟨hk.1.2.2.2.1, ⟨hk.1.2.2.2.2.1, hk.1.2.2.2.2.2⟩⟩⟩⟩, hk.2⟩))))
               (case aB => exact (pY25))
               (case aF => exact (fun k_ hk => ⟨(Nat.le_trans (below_size (pY25)) hk), Kd.fresh' (Kd.R_lt (pY45)) k_ hk, Kd.freshB (g := gb101) (o := .cells #[.slice A0_0 l0_0.length c0_0, .slice A0_1 l0_1.length c0_1] 31 (0, 0)) (pY38) k_ hk, Kd.freshB (g := gb102) (o := .cells #[.slice none 0 0, .slice none 0 0] 31 (0, 0)) (pY39) k_ hk, Kd.freshB (g := gb110) (o := .cells #[.slice Ao16 t104.length co16, .slice Ao20 t107.length co20] 31 (0, 0)) (pY41) k_ hk⟩))
               (case aO => exact (by (with_reducible repeat (first | apply Kd.N_alloc | apply Kd.N_drewN | apply Kd.N_drew)); exact HO162.1))
               (case aS => exact (below_size (pY25)))
               (case aL => have := LMc99.out; omega)
               intro v169 w113 ho hb hg hat
               rw [← Ny168.out] at ho
               have n0_ := Aside0.mk (Kd.R_over' (pY45) (Kd.N_typed (by (with_reducible repeat (first | apply Kd.N_alloc | apply Kd.N_drewN | apply Kd.N_drew)); exact HO162.1)) (by decide) hg)
               have n1_ := Aside0.mk (Kd.N_afterv (ok := (fun k_ => (w.heap.size ≤ k_) ∧ some k_ ≠ (.slice Ao16 t104.length co16 : Value).ownBlock ∧ k_ ≠ gb101 ∧ k_ ≠ gb102 ∧ k_ ≠ gb110)) (by (with_reducible repeat (first | apply Kd.N_alloc | apply Kd.N_drewN | apply Kd.N_drew)); exact Kd.N_mono HO_111001.1 (fun _ hk => ⟨⟨hk.1.1, ⟨hk.1.2.1, ⟨hk.1.2.2.2.1, ⟨hk.1.2.2.2.2.1, hk.1.2.2.2.2.2⟩⟩⟩⟩, hk.2⟩)) hg hat)
               have n2_ := Aside0.mk (blk_grown (g := gb101) (o := .cells #[.slice A0_0 l0_0.length c0_0, .slice A0_1 l0_1.length c0_1] 31 (0, 0)) (pY38) hg (Kd.N_ne HO162.1 BK101.1 (by decide)))
               have n3_ := Aside0.mk (blk_grown (g := gb102) (o := .cells #[.slice none 0 0, .slice none 0 0] 31 (0, 0)) (pY39) hg (Kd.N_ne HO162.1 BK102.1 (by decide)))
               have n4_ := Aside0.mk (blk_grown (g := gb110) (o := .cells #[.slice Ao16 t104.length co16, .slice Ao20 t107.length co20] 31 (0, 0)) (pY41) hg (Kd.N_ne HO162.1 BK110.1 (by decide)))
               have n5_ := Aside0.mk (Kd.V_afterv (ok := (fun k_ => (w.heap.size ≤ k_) ∧ some k_ ≠ (.slice Ao16 t104.length co16 : Value).ownBlock ∧ k_ ≠ gb101 ∧ k_ ≠ gb102 ∧ k_ ≠ gb110)) (by (with_reducible repeat (first | apply Kd.V_alloc | apply Kd.V_drewN | apply Kd.V_drew)); exact Kd.V_mono HO153.1 (fun _ hk => ⟨⟨hk.1.1, ⟨hk.1.2.1, ⟨hk.1.2.2.2.1, ⟨hk.1.2.2.2.2.1, hk.1.2.2.2.2.2⟩⟩⟩⟩, hk.2⟩)) hg hat)
               have n6_ := Aside0.mk (Kd.V_afterv (ok := (fun k_ => (w.heap.size ≤ k_) ∧ some k_ ≠ (.slice Ao16 t104.length co16 : Value).ownBlock ∧ k_ ≠ gb101 ∧ k_ ≠ gb102 ∧ k_ ≠ gb110)) (by (with_reducible repeat (first | apply Kd.V_alloc | apply Kd.V_drewN | apply Kd.V_drew)); exact Kd.V_mono HO167.1 (fun _ hk => ⟨⟨hk.1.1, ⟨hk.1.2.1, ⟨hk.1.2.2.2.1, ⟨hk.1.2.2.2.2.1, hk.1.2.2.2.2.2⟩⟩⟩⟩, hk.2⟩)) hg hat)
               have n7_ := Aside0.mk (hb)
               have n8_ := Aside0.mk (ho)
               clear HO_111000
               clear HO_111001
               clear BK101
               clear BK102
               clear BK110
               clear HO153
               clear HO167
               clear HB
               clear HO162
               have HO_111000 := n0_
               have HO_111001 := n1_
               have BK101 := n2_
               have BK102 := n3_
               have BK110 := n4_
               have HO153 := n5_
               have HO167 := n6_
               have HB := n7_
               have HO170 := n8_
               clear n0_ n1_ n2_ n3_ n4_ n5_ n6_ n7_ n8_
               clear ho hb hg hat
               obtain ⟨Ao114, co114, eo114⟩ := Kd.N_slice HO170.1
               (first | subst eo114 | (injection eo114 with f1_ f2_ f3_; have f4_ := f1_.symm; have f5_ := f3_.symm; clear f1_ f2_ f3_; subst f4_; subst f5_))
               refine hK.out _ _ ⟨(blk_cell BK110.1 0).trans rfl, (blk_cell BK110.1 1).trans rfl⟩ (fun hHeld => ?_)
               clear hK K
               refine norm_ (a' := ?_) ?_ ?_
               rotate_left
               ·show Act.put _ (some 70) _ = _
                simp only [pW]
                rfl
               refine pU (i := 17) (N := some 71) #[tt,tt,tt,tt,tt,tt,tt,tt,tt,tt,tt,tt,tt,tt,tt,tt,tt,tt,ff] ?_
               refine last_ (i := 18) (N := none) #[tt,tt,tt,tt,tt,tt,tt,tt,tt,tt,tt,tt,tt,tt,tt,tt,tt,tt,tt] rfl rfl (one_of HT_.out (by kernel_rfl)) (by decide) (fun K hK => ?_)
               have hs115 : w113.cell? ⟨gb110, 1, none⟩ = some (.slice Ao20 t107.length co20) := (blk_cell BK110.1 1).trans rfl
               have hfs115 := blk_frozen BK110.1 1
               have hns115_0 := NB101_110.1
               have hns115_1 := NB102_110.1
               have hms115_0 := NB110_101.1
               have hms115_1 := NB110_102.1
               refine skip_ (w1 := ?_) (by rfl) rfl ?_ ?_
               rotate_left
               ·go_simp
                rfl
               refine hK.out _ _ ?_
               clear hK K
               refine done_ (done_of HT_.out (by kernel_rfl)) ?_
               have hcz116_0 : w113.cell? ⟨gb110, 0, none⟩ = some (.slice Ao16 t104.length co16) := (blk_cell BK110.1 0).trans rfl
               have hcz116_1 : w113.cell? ⟨gb110, 1, none⟩ = some (.slice Ao20 t107.length co20) := (blk_cell BK110.1 1).trans rfl
               have hfz116_0 := blk_frozen BK110.1 0
               have hfz116_1 := blk_frozen BK110.1 1
               try go_wp2_with (first | ((with_reducible refine gate_callee (f := 89) rfl ?_); refine goesL_ (some 73) rfl rfl Try.func89 (by kernel_rfl) rfl #[.agg #[.slice Ao16 t104.length co16, .slice Ao114 y168.length co114]] rfl (pY36) ?_; (with_reducible refine (spec_l1Copy.calls k2 _ _ t104 _ _ y168 t171 t174 _ ?side1 ?side2 ?side3 ?side4 A100.out).mono ?_); (case side1 => refine (Kd.R_reads' (e := 9) (base := w.heap.size) (ok := fun k_ => (w.heap.size ≤ k_)) (n := t104.length) (c := co16) ?_).2.2; exact (by (with_reducible repeat (first | apply Kd.R_alloc | apply Kd.R_drewN | apply Kd.R_drew)); exact Kd.R_mono (Kd.R_far (p := ⟨gb110, 1, none⟩) (Kd.R_types HO_111000.1 BK110.1 (by decide)) (fun _ hk => hk.2) (.slice Ao114 y168.length co114)) (fun _ hk => hk.1.1))); (case side2 => exact (Kd.R_reads' HO_111000.1).2.1); (case side3 => refine (Kd.N_reads' (e := 56) (base := w.heap.size) (ok := fun k_ => ((w.heap.size ≤ k_) ∧ (some k_ ≠ (.slice Ao16 t104.length co16 : Value).ownBlock ∧ (k_ ≠ gb101 ∧ (k_ ≠ gb102 ∧ k_ ≠ gb110))))) (n := y168.length) (c := co114) ?_).2.2; exact (by (with_reducible repeat (first | apply Kd.N_alloc | apply Kd.N_drewN | apply Kd.N_drew)); exact (Kd.N_mono (Kd.N_far (p := ⟨gb110, 1, none⟩) (Kd.N_mono HO170.1 (fun k_ hk => (⟨hk, hk.2.2.2.2⟩ : _ ∧ k_ ≠ gb110))) (fun _ hk => hk.2) (.slice Ao114 y168.length co114)) (fun _ h_ => h_.1)))); (case side4 => exact (Kd.N_reads' HO170.1).2.1); rintro e w117 ⟨v172, v175, rfl, ho0, ho1, hb⟩; refine ⟨_, rfl, ?_⟩; have n0_ := Aside0.mk (Kd.R_elder' (by (with_reducible repeat (first | apply Kd.R_alloc | apply Kd.R_drewN | apply Kd.R_drew)); exact (Kd.R_mono (Kd.R_far (p := ⟨gb110, 1, none⟩) (Kd.R_types HO_111000.1 BK110.1 (by decide)) (fun _ hk => hk.2) (.slice Ao114 y168.length co114)) (fun _ h_ => h_.1))) (Kd.R_base ho0) hb); have n1_ := Aside0.mk (Kd.N_mono (Kd.N_told (Kd.N_told (Kd.N_old (by (with_reducible repeat (first | apply Kd.N_alloc | apply Kd.N_drewN | apply Kd.N_drew)); exact (Kd.N_mono (Kd.N_far (p := ⟨gb110, 1, none⟩) (Kd.N_mono HO_111001.1 (fun k_ hk => (⟨hk, hk.1.2.2.2.2⟩ : _ ∧ k_ ≠ gb110))) (fun _ hk => hk.2) (.slice Ao114 y168.length co114)) (fun _ h_ => h_.1))) hb) (Kd.R_base ho0)) (by first | exact Kd.N_base ho1 | exact Kd.S_base ho1)) (fun _ h_ => h_.1)); have n2_ := Aside0.mk (Kd.V_mono (Kd.V_told (Kd.V_told (Kd.V_old (by (with_reducible repeat (first | apply Kd.V_alloc | apply Kd.V_drewN | apply Kd.V_drew)); exact (Kd.V_mono (Kd.V_far (p := ⟨gb110, 1, none⟩) (Kd.V_mono HO153.1 (fun k_ hk => (⟨hk, hk.1.2.2.2.2⟩ : _ ∧ k_ ≠ gb110))) (fun _ hk => hk.2) (.slice Ao114 y168.length co114)) (fun _ h_ => h_.1))) hb) (Kd.R_base ho0)) (by first | exact Kd.N_base ho1 | exact Kd.S_base ho1)) (fun _ h_ => h_.1)); have n3_ := Aside0.mk (Kd.V_mono (Kd.V_told (Kd.V_told (Kd.V_old (by (with_reducible repeat (first | apply Kd.V_alloc | apply Kd.V_drewN | apply Kd.V_drew)); exact (Kd.V_mono (Kd.V_far (p := ⟨gb110, 1, none⟩) (Kd.V_mono HO167.1 (fun k_ hk => (⟨hk, hk.1.2.2.2.2⟩ : _ ∧ k_ ≠ gb110))) (fun _ hk => hk.2) (.slice Ao114 y168.length co114)) (fun _ h_ => h_.1))) hb) (Kd.R_base ho0)) (by first | exact Kd.N_base ho1 | exact Kd.S_base ho1)) (fun _ h_ => h_.1)); have n4_ := Aside0.mk (Kd.N_mono (Kd.N_told (Kd.N_told (Kd.N_old (by (with_reducible repeat (first | apply Kd.N_alloc | apply Kd.N_drewN | apply Kd.N_drew)); exact (Kd.N_mono (Kd.N_far (p := ⟨gb110, 1, none⟩) (Kd.N_mono HO170.1 (fun k_ hk => (⟨hk, hk.2.2.2.2⟩ : _ ∧ k_ ≠ gb110))) (fun _ hk => hk.2) (.slice Ao114 y168.length co114)) (fun _ h_ => h_.1))) hb) (Kd.R_base ho0)) (by first | exact Kd.N_base ho1 | exact Kd.S_base ho1)) (fun _ h_ => h_.1)); have n5_ := Aside0.mk (Kd.R_lower (Kd.R_new' (Kd.R_newM (M := fun k_ => (w.heap.size ≤ k_)) ho0 (below_size (pY25)) (fun k_ h_ => h_)) (Kd.R_lt (by (with_reducible repeat (first | apply Kd.R_alloc | apply Kd.R_drewN | apply Kd.R_drew)); exact (Kd.R_mono (Kd.R_far (p := ⟨gb110, 1, none⟩) (Kd.R_types HO_111000.1 BK110.1 (by decide)) (fun _ hk => hk.2) (.slice Ao114 y168.length co114)) (fun _ h_ => h_.1))))) (below_size (pY25))); have n6_ := Aside0.mk (Kd.N_lower (Kd.N_mono (ok' := fun k_ => (w.heap.size ≤ k_) ∧ some k_ ≠ (v172 : Value).ownBlock ∧ some k_ ≠ (.slice Ao16 t104.length co16 : Value).ownBlock ∧ some k_ ≠ (.slice Ao20 t107.length co20 : Value).ownBlock ∧ some k_ ≠ (.slice Ao114 y168.length co114 : Value).ownBlock ∧ k_ ≠ gb101 ∧ k_ ≠ gb102 ∧ k_ ≠ gb110) (Kd.S_N (Kd.S_bound ho1)) (fun k_ hk_ => ⟨(Nat.le_trans (below_size (pY25)) hk_.2.1), hk_.1, (Kd.fresh' (Kd.R_lt (by (with_reducible repeat (first | apply Kd.R_alloc | apply Kd.R_drewN | apply Kd.R_drew)); exact (Kd.R_mono (Kd.R_far (p := ⟨gb110, 1, none⟩) (Kd.R_types HO_111000.1 BK110.1 (by decide)) (fun _ hk => hk.2) (.slice Ao114 y168.length co114)) (fun _ h_ => h_.1)))) k_ hk_.2.1), (Kd.fresh' (Kd.N_lt (by (with_reducible repeat (first | apply Kd.N_alloc | apply Kd.N_drewN | apply Kd.N_drew)); exact (Kd.N_mono (Kd.N_far (p := ⟨gb110, 1, none⟩) (Kd.N_mono HO_111001.1 (fun k_ hk => (⟨hk, hk.1.2.2.2.2⟩ : _ ∧ k_ ≠ gb110))) (fun _ hk => hk.2) (.slice Ao114 y168.length co114)) (fun _ h_ => h_.1)))) k_ hk_.2.1), (Kd.fresh' (Kd.N_lt (by (with_reducible repeat (first | apply Kd.N_alloc | apply Kd.N_drewN | apply Kd.N_drew)); exact (Kd.N_mono (Kd.N_far (p := ⟨gb110, 1, none⟩) (Kd.N_mono HO170.1 (fun k_ hk => (⟨hk, hk.2.2.2.2⟩ : _ ∧ k_ ≠ gb110))) (fun _ hk => hk.2) (.slice Ao114 y168.length co114)) (fun _ h_ => h_.1)))) k_ hk_.2.1), (Kd.freshB (g := gb101) (o := .cells #[.slice A0_0 l0_0.length c0_0, .slice A0_1 l0_1.length c0_1] 31 (0, 0)) (pY17) k_ hk_.2.1), (Kd.freshB (g := gb102) (o := .cells #[.slice none 0 0, .slice none 0 0] 31 (0, 0)) (pY18) k_ hk_.2.1), (Kd.freshB (g := gb110) (o := .cells #[.slice Ao16 t104.length co16, .slice Ao114 y168.length co114] 31 (0, 0)) (by (with_reducible repeat (first | refine blk_drewN ?_ _ | refine blk_drew ?_ | refine blk_alloc ?_ _)); refine blk_put (cs := #[.slice Ao16 t104.length co16, .slice Ao20 t107.length co20]) ?_ 1 _ rfl; (with_reducible repeat (first | refine blk_drewN ?_ _ | refine blk_drew ?_ | refine blk_alloc ?_ _)); exact BK110.1) k_ hk_.2.1)⟩)) (below_size (pY25))); have n7_ := Aside0.mk (blk_below (g := gb101) (o := .cells #[.slice A0_0 l0_0.length c0_0, .slice A0_1 l0_1.length c0_1] 31 (0, 0)) (pY17) hb); have n8_ := Aside0.mk (blk_below (g := gb102) (o := .cells #[.slice none 0 0, .slice none 0 0] 31 (0, 0)) (pY18) hb); have n9_ := Aside0.mk (blk_below (g := gb110) (o := .cells #[.slice Ao16 t104.length co16, .slice Ao114 y168.length co114] 31 (0, 0)) (by (with_reducible repeat (first | refine blk_drewN ?_ _ | refine blk_drew ?_ | refine blk_alloc ?_ _)); refine blk_put (cs := #[.slice Ao16 t104.length co16, .slice Ao20 t107.length co20]) ?_ 1 _ rfl; (with_reducible repeat (first | refine blk_drewN ?_ _ | refine blk_drew ?_ | refine blk_alloc ?_ _)); exact BK110.1) hb); have n10_ := Aside0.mk (below_step (pY25) hb); clear HO_111000; clear HO_111001; clear HO153; clear HO167; clear HO170; clear BK101; clear BK102; clear BK110; clear HB; have HO_111000 := n0_; have HO_111001 := n1_; have HO153 := n2_; have HO167 := n3_; have HO170 := n4_; have HO173 := n5_; have HO176 := n6_; have BK101 := n7_; have BK102 := n8_; have BK110 := n9_; have HB := n10_; clear n0_ n1_ n2_ n3_ n4_ n5_ n6_ n7_ n8_ n9_ n10_; (try clear hb); (try clear hb2); (try clear hk); (try clear hi); (try clear ho0); (try clear ho1); obtain ⟨Ao118, co118, eo118⟩ := Kd.R_slice HO173.1; subst eo118; have hnb119 := NB102_101.1; have hnc119 := NB101_102.1; have hcz120_0 : w117.cell? ⟨gb102, 0, none⟩ = some (.slice none 0 0) := (blk_cell BK102.1 0).trans rfl; have hcz120_1 : w117.cell? ⟨gb102, 1, none⟩ = some (.slice none 0 0) := (blk_cell BK102.1 1).trans rfl; have hfz120_0 := blk_frozen BK102.1 0; have hfz120_1 := blk_frozen BK102.1 1; obtain ⟨Ao121, co121, eo121⟩ := Kd.N_slice HO176.1; subst eo121))
               refine bodyPost_ret (results_ct rfl _ _ gb102 31 #[.slice Ao118 t171.length co118, .slice Ao121 t174.length co121] (0, 0) _ rfl (by (with_reducible repeat (first | refine blk_drewN ?_ _ | refine blk_drew ?_ | refine blk_alloc ?_ _)); refine blk_put (cs := #[.slice Ao118 t171.length co118, .slice none 0 0]) ?_ 1 _ rfl; (with_reducible repeat (first | refine blk_drewN ?_ _ | refine blk_drew ?_ | refine blk_alloc ?_ _)); refine blk_put (cs := #[.slice none 0 0, .slice none 0 0]) ?_ 0 _ rfl; (with_reducible repeat (first | refine blk_drewN ?_ _ | refine blk_drew ?_ | refine blk_alloc ?_ _)); exact BK102.1) Try.underlying31 rfl (by kernel_rfl)) rfl ?_
               exact ⟨_, _, by first | rfl | (simp [errW_none, errW_some] <;> rfl) | (simp [*, errW_none, errW_some] <;> rfl), by (with_reducible repeat (first | apply Kd.R_alloc | apply Kd.R_drewN | apply Kd.R_drew)); exact Kd.R_mono (Kd.R_far (p := ⟨gb102, 1, none⟩) (Kd.R_far (p := ⟨gb102, 0, none⟩) (Kd.R_types HO173.1 BK102.1 (by decide)) (fun _ hk => hk.2) (.slice Ao118 t171.length co118)) (fun _ hk => hk.2) (.slice Ao121 t174.length co121)) (fun _ hk => hk.1.1.1), by (with_reducible repeat (first | apply Kd.N_alloc | apply Kd.N_drewN | apply Kd.N_drew)); exact Kd.N_mono (Kd.N_far (p := ⟨gb102, 1, none⟩) (Kd.N_far (p := ⟨gb102, 0, none⟩) (Kd.N_mono HO176.1 (fun k_ hk => (⟨hk, hk.2.2.2.2.2.2.1⟩ : _ ∧ k_ ≠ gb102))) (fun _ hk => hk.2) (.slice Ao118 t171.length co118)) (fun _ hk => hk.2) (.slice Ao121 t174.length co121)) (fun _ hk => ⟨hk.1.1, hk.1.2.1⟩), pY25⟩
              ·rw [if_neg c99] at H
               exact absurd H (by simp)
             ·rw [if_neg c96] at H
              exact absurd H (by simp)
            ·rw [if_neg c94] at H
             exact absurd H (by simp)
           ·rw [if_neg c93] at H
            exact absurd H (by simp)
          ·rw [if_neg c92] at H
           exact absurd H (by simp)
 ·replace c5 := Bool.eq_false_iff.mpr c5
  subst c5
  have H1 : (some (([] : List ByteArray), ([] : List (S56)), 1)) = some (r1, r2, r3) := by rw [if_neg (show ¬ (false = true) by decide)] at H; exact H
  clear H
  have H := H1
  clear H1
  simp only [Option.some.injEq, Prod.mk.injEq] at H
  obtain ⟨rfl, rfl, rfl⟩ := H
  go_enter Try.func59, Try.ntmps59
  go_wp2_with (first | ((with_reducible refine gate_dst (N := 3) rfl ?_); refine box_event ?hg (N := 3) ?hd (cs := #[.slice A0_0 l0_0.length c0_0, .slice A0_1 l0_1.length c0_1]) (t := 31) ?hr ?_; (case hd => rfl); (case hg => rfl); (case hr => first | (go_simp; done) | (go_simp; rfl)); intro gb101 hg w122 hbox hb; have n0_ := Aside0.mk (below_step (pY37) hb); have n1_ := Aside0.mk (hbox); have n2_ := Aside0.mk ((pY34 : w.heap.size ≤ gb101)); have n3_ := Aside0.mk ((pY34 : w.heap.size ≤ gb101)); clear HB; have HB := n0_; have BK101 := n1_; have GW101 := n2_; have GE101 := n3_; clear n0_ n1_ n2_ n3_; clear hb hbox hg) | ((with_reducible refine gate_dst (N := 6) rfl ?_); refine box_event ?hg (N := 6) ?hd (cs := #[.slice none 0 0, .slice none 0 0]) (t := 31) ?hr ?_; (case hd => rfl); (case hg => rfl); (case hr => first | (go_simp; done) | (go_simp; rfl)); intro gb102 hg w123 hbox hb; have n0_ := Aside0.mk (blk_below (g := gb101) (o := .cells #[.slice A0_0 l0_0.length c0_0, .slice A0_1 l0_1.length c0_1] 31 (0, 0)) (pY38) hb); have n1_ := Aside0.mk (below_step (pY35) hb); have n2_ := Aside0.mk (hbox); have n3_ := Aside0.mk ((pY27 : w.heap.size ≤ gb102)); have n4_ := Aside0.mk ((pY27 : w.heap.size ≤ gb102)); have n5_ := Aside0.mk ((pY15 : gb101 ≠ gb102)); have n6_ := Aside0.mk ((pY16 : gb102 ≠ gb101)); clear BK101; clear HB; have BK101 := n0_; have HB := n1_; have BK102 := n2_; have GW102 := n3_; have GE102 := n4_; have NB101_102 := n5_; have NB102_101 := n6_; clear n0_ n1_ n2_ n3_ n4_ n5_ n6_; clear hb hbox hg; have hnb124 := NB101_102.1; have hnc124 := NB102_101.1; have hcz125_0 : w123.cell? ⟨gb101, 0, none⟩ = some (.slice A0_0 l0_0.length c0_0) := (blk_cell BK101.1 0).trans rfl; have hcz125_1 : w123.cell? ⟨gb101, 1, none⟩ = some (.slice A0_1 l0_1.length c0_1) := (blk_cell BK101.1 1).trans rfl; have hfz125_0 := blk_frozen BK101.1 0; have hfz125_1 := blk_frozen BK101.1 1) | ((with_reducible refine gate_callee (f := 22) rfl ?_); refine goesL_ (some 11) rfl rfl Try.func22 (by kernel_rfl) rfl #[.agg #[.slice A0_0 l0_0.length c0_0, .slice A0_1 l0_1.length c0_1]] rfl (pY36) ?_; (with_reducible refine (spec_ShareBookOk.calls k _ _ l0_0 _ _ l0_1 false _ ?side1 ?side2 ?side3 ?side4 A4.out).mono ?_); (case side1 => exact pC (Kd.C_below HR0_0.1 HB.1)); (case side2 => exact HC0_0.1); (case side3 => exact pC (Kd.C_below HR0_1.1 HB.1)); (case side4 => exact HC0_1.1); rintro e w126 ⟨rfl, hb⟩; refine ⟨_, rfl, ?_⟩; have n0_ := Aside0.mk (blk_below (g := gb101) (o := .cells #[.slice A0_0 l0_0.length c0_0, .slice A0_1 l0_1.length c0_1] 31 (0, 0)) (pY38) hb); have n1_ := Aside0.mk (blk_below (g := gb102) (o := .cells #[.slice none 0 0, .slice none 0 0] 31 (0, 0)) (pY39) hb); have n2_ := Aside0.mk (below_step (pY28) hb); clear BK101; clear BK102; clear HB; have BK101 := n0_; have BK102 := n1_; have HB := n2_; clear n0_ n1_ n2_; (try clear hb); (try clear hb2); (try clear hk); (try clear hi); have hcz127_0 : w126.cell? ⟨gb102, 0, none⟩ = some (.slice none 0 0) := (blk_cell BK102.1 0).trans rfl; have hcz127_1 : w126.cell? ⟨gb102, 1, none⟩ = some (.slice none 0 0) := (blk_cell BK102.1 1).trans rfl; have hfz127_0 := blk_frozen BK102.1 0; have hfz127_1 := blk_frozen BK102.1 1))
  refine bodyPost_ret (results_ct rfl _ _ gb102 31 #[.slice none 0 0, .slice none 0 0] (0, 0) _ rfl (by (with_reducible repeat (first | refine blk_drewN ?_ _ | refine blk_drew ?_ | refine blk_alloc ?_ _)); refine blk_put (cs := #[.slice none 0 0, .slice none 0 0]) ?_ 1 _ rfl; (with_reducible repeat (first | refine blk_drewN ?_ _ | refine blk_drew ?_ | refine blk_alloc ?_ _)); refine blk_put (cs := #[.slice none 0 0, .slice none 0 0]) ?_ 0 _ rfl; (with_reducible repeat (first | refine blk_drewN ?_ _ | refine blk_drew ?_ | refine blk_alloc ?_ _)); exact BK102.1) Try.underlying31 rfl (by kernel_rfl)) rfl ?_
  exact ⟨_, _, by first | rfl | (simp [errW_none, errW_some] <;> rfl) | (simp [*, errW_none, errW_some] <;> rfl), by first | exact Kd.R_nil _ _ _ _ _ | exact Kd.N_nil _ _ _ _ _ | exact Kd.V_nil _ _ _ _ _ | exact Kd.Q_nil _ _ _ _ _ | exact Kd.S_nil _ _ _ _ _, by first | exact Kd.S_nil _ _ _ _ _ | exact Kd.N_nil _ _ _ _ _ | exact Kd.V_nil _ _ _ _ _ | exact Kd.Q_nil _ _ _ _ _ | exact Kd.R_nil _ _ _ _ _, pY28⟩
end Go.Proofs.Ytaofjgnhapnndaa.Q
namespace Go.Proofs.Ytaofjgnhapnndaa.Q
open Go.RowKit Go.Proofs.YtaofjgnhapnndaaW.PrintWords Go.Proofs.YtaofjgnhapnndaaW.PrintLast Go.Proofs.YtaofjgnhapnndaaW.PrintMore
set_option linter.unusedVariables false
set_option linter.unusedSimpArgs false
abbrev EC := ByteArray × (Option Addr × Nat × Nat) × (Option Addr × Nat × Nat)
def encE (p : EC) : List Value := [.string p.1, .slice p.2.1.1 p.2.1.2.1 p.2.1.2.2, .slice p.2.2.1 p.2.2.2.1 p.2.2.2.2]
theorem encE_len (p : EC) : (encE p).length = 3 := rfl
structure EZ where
  c : EC
  x : S56
  o : Nat → Prop
def EZ.apart (a b : EZ) : Prop := ∀ k, a.o k → b.o k → False
theorem perm_lift {α β : Type} (f : α → β) : ∀ {L : List β} {Z : List α}, (Z.map f).Perm L → ∃ Z' : List α, Z'.Perm Z ∧ Z'.map f = L
  | [], Z, h => by
    have := h.length_eq
    simp at this
    exact ⟨[], by rw [this], rfl⟩
  | b :: L, Z, h => by
    have hb : b ∈ Z.map f := h.symm.subset (List.mem_cons_self ..)
    obtain ⟨z, hz, rfl⟩ := List.mem_map.1 hb
    obtain ⟨s, t, rfl⟩ := List.append_of_mem hz
    have hp : ((s ++ z :: t).map f).Perm (f z :: (s ++ t).map f) := by
      rw [List.map_append, List.map_cons, List.map_append]
      exact List.perm_middle
    obtain ⟨Z', h1, h2⟩ := perm_lift f (L := L) (Z := s ++ t) (List.Perm.cons_inv (hp.symm.trans h))
    exact ⟨z :: Z', (List.Perm.cons z h1).trans List.perm_middle.symm, by rw [List.map_cons, h2]⟩
theorem flat3 : ∀ (n : Nat) (inner : List Value) (G : Nat → List Value), inner.length = n * 3 → (∀ j, j < n → (inner.drop (j * 3)).take 3 = G j) → inner = ((List.range n).map G).flatten
  | 0, inner, G, h, _ => by
    rw [List.range_zero, List.map_nil, List.flatten_nil]
    exact List.length_eq_zero_iff.1 (by omega)
  | n + 1, inner, G, h, hG => by
    have h0 := hG 0 (by omega)
    rw [Nat.zero_mul, List.drop_zero] at h0
    have ih := flat3 n (inner.drop 3) (fun j => G (j + 1)) (by rw [List.length_drop]; omega) (fun j hj => by
      rw [List.drop_drop, show 3 + j * 3 = (j + 1) * 3 by omega]; exact hG (j + 1) (by omega))
    rw [List.range_succ_eq_map, List.map_cons, List.flatten_cons, ← h0, List.map_map]
    conv => lhs; rw [← List.take_append_drop 3 inner, ih]
    rfl
theorem S_toZ {w : World} {base g n cap : Nat} {P : Nat → Prop} {xs : List S56} (h : Kd.S k56 56 w base P (.slice (some ⟨g, 0, none⟩) n cap) xs) :
    P g ∧ base ≤ g ∧ n = xs.length ∧ n ≤ cap ∧ cap ≤ maxLen ∧ ∃ (cur : Array Value) (Z : List EZ), w.heap[g]? = some (.cells cur 56 (0, 0)) ∧ cur.size = cap * 3 ∧ Z.map EZ.x = xs ∧ cur.toList.take (n * 3) = (Z.map fun z => encE z.c).flatten ∧ Z.Pairwise EZ.apart ∧
      ∀ z ∈ Z, z.c.1 = z.x.f0 ∧ k56.M w base (fun k => (P k ∧ k ≠ g) ∧ z.o k) z.x (encE z.c) := by
  obtain ⟨f, h0, inner, ⟨hil, ho⟩, hr⟩ := h
  rw [List.length_zipIdx] at hil
  have hP : P g := h0 g rfl
  rcases ho with ⟨hv, _⟩ | ⟨g', cap', cur, hv, hb, hh, hn, hm, hc, ht⟩
  · cases hv
  injection hv with ha hn2 hcap
  injection ha with ha
  injection ha with ha _ _
  subst ha; subst hcap
  rw [List.length_zipIdx] at hn2 hn ht
  refine ⟨hP, hb, hn2, by omega, hm, cur, ?_⟩
  have hel : ∀ j (hj : j < xs.length), ∃ c : EC, (inner.drop (j * 3)).take 3 = encE c ∧ c.1 = xs[j].f0 ∧ k56.M w base (fun k => (P k ∧ k ≠ g) ∧ f k = j) xs[j] (encE c) := by
    intro j hj
    have hM : k56.M w base (fun k => (P k ∧ some k ≠ (Value.slice (some ⟨g, 0, none⟩) n cap).ownBlock) ∧ f k = j) xs[j] ((inner.drop (j * 3)).take 3) := hr.2 j (xs[j], j) (Kd.zip_at (List.getElem?_eq_getElem hj))
    have hM2 : k56.M w base (fun k => (P k ∧ k ≠ g) ∧ f k = j) xs[j] ((inner.drop (j * 3)).take 3) := k56.M_mono (fun k hk => ⟨⟨hk.1.1, fun e => hk.1.2 (by rw [e]; rfl)⟩, hk.2⟩) hM
    obtain ⟨v1, v2, e, g1, g2⟩ := k56_openM hM2
    obtain ⟨A1, c1, rfl⟩ := Kd.R_slice g1
    obtain ⟨A2, c2, rfl⟩ := Kd.R_slice g2
    refine ⟨(xs[j].f0, (A1, xs[j].f1.length, c1), (A2, xs[j].f2.length, c2)), e, rfl, ?_⟩
    rw [← show _ = encE _ from e]
    exact hM2
  have hchoose : ∀ j, ∃ c : EC, ∀ hj : j < xs.length, (inner.drop (j * 3)).take 3 = encE c ∧ c.1 = xs[j].f0 ∧ k56.M w base (fun k => (P k ∧ k ≠ g) ∧ f k = j) xs[j] (encE c) := by
    intro j
    by_cases hj : j < xs.length
    · obtain ⟨c, hc⟩ := hel j hj; exact ⟨c, fun _ => hc⟩
    · exact ⟨(ByteArray.empty, (none, 0, 0), (none, 0, 0)), fun h => absurd h hj⟩
  obtain ⟨F, hF⟩ := Classical.axiomOfChoice hchoose
  refine ⟨xs.zipIdx.map fun q => ⟨F q.2, q.1, fun k => f k = q.2⟩, hh, hc, ?_, ?_, ?_, ?_⟩
  · rw [List.map_map]
    exact List.zipIdx_map_fst 0 xs
  · have hl : inner.length = xs.length * 3 := hil
    rw [hn2, show cur.toList.take (xs.length * 3) = inner from ht, List.map_map]
    have e : xs.zipIdx.map ((fun z => encE z.c) ∘ fun q => (⟨F q.2, q.1, fun k => f k = q.2⟩ : EZ)) = (List.range xs.length).map fun j => encE (F j) := by
      rw [List.range_eq_range', ← List.zipIdx_map_snd 0 xs, List.map_map]; rfl
    rw [e]
    exact flat3 xs.length inner _ hl (fun j hj => (hF j hj).1)
  · rw [List.pairwise_map]
    rw [List.pairwise_iff_getElem]
    intro i j hi hj hij k h1 h2
    simp only [List.getElem_zipIdx, Nat.zero_add] at h1 h2
    omega
  · intro z hz
    obtain ⟨q, hq, rfl⟩ := List.mem_map.1 hz
    obtain ⟨j, hj, rfl⟩ := List.getElem_of_mem hq
    rw [List.length_zipIdx] at hj
    simp only [List.getElem_zipIdx, Nat.zero_add]
    exact (hF j hj).2
theorem S_ofZ {w w' : World} {base g n cap : Nat} {P : Nat → Prop} {Z : List EZ} {cur : Array Value} (hP : P g) (hb : base ≤ g) (hn : n = Z.length) (hc : n ≤ cap) (hm : cap ≤ maxLen)
    (hh : w'.heap[g]? = some (.cells cur 56 (0, 0))) (hs : cur.size = cap * 3) (ht : cur.toList.take (n * 3) = (Z.map fun z => encE z.c).flatten) (hp : Z.Pairwise EZ.apart)
    (hZ : ∀ z ∈ Z, k56.M w base (fun k => (P k ∧ k ≠ g) ∧ z.o k) z.x (encE z.c)) (hk : Kept w w' (fun k => k = g)) :
    Kd.S k56 56 w' base P (.slice (some ⟨g, 0, none⟩) n cap) (Z.map EZ.x) := by
  subst hn
  have hlen : ∀ L : List EZ, (L.map fun z => encE z.c).flatten.length = L.length * 3 := by
    intro L; induction L with
    | nil => rfl
    | cons a l ih => rw [List.map_cons, List.flatten_cons, List.length_append, ih, List.length_cons, encE_len]; omega
  have hdrop : ∀ (L : List EZ) (j : Nat) (hj : j < L.length), (((L.map fun z => encE z.c).flatten).drop (j * 3)).take 3 = encE L[j].c := by
    intro L; induction L with
    | nil => intro j hj; exact absurd hj (by simp)
    | cons a l ih =>
      intro j hj
      rw [List.map_cons, List.flatten_cons]
      cases j with
      | zero => rw [Nat.zero_mul, List.drop_zero, List.take_append_of_le_length (by rw [encE_len]; omega), List.take_of_length_le (by rw [encE_len]; omega)]; rfl
      | succ j =>
        rw [List.drop_append, List.drop_eq_nil_of_le (by rw [encE_len]; omega), List.nil_append, encE_len, show (j + 1) * 3 - 3 = j * 3 by omega]
        exact ih j (by simpa using hj)
  have hZ2 : ∀ j (hj : j < Z.length), ∀ i (hi : i < Z.length), ∀ k, Z[i].o k → Z[j].o k → i = j := by
    intro j hj i hi k h1 h2
    rw [List.pairwise_iff_getElem] at hp
    rcases Nat.lt_trichotomy i j with h | h | h
    · exact (hp i j hi hj h k h1 h2).elim
    · exact h
    · exact (hp j i hj hi h k h2 h1).elim
  have hf : ∀ k, ∃ i, ∀ j (hj : j < Z.length), Z[j].o k → i = j := by
    intro k
    by_cases h : ∃ i, ∃ hi : i < Z.length, Z[i].o k
    · obtain ⟨i, hi, h1⟩ := h
      exact ⟨i, fun j hj h2 => hZ2 j hj i hi k h1 h2⟩
    · exact ⟨0, fun j hj h2 => absurd ⟨j, hj, h2⟩ h⟩
  obtain ⟨f, hf⟩ := Classical.axiomOfChoice hf
  have hl : (Z.map EZ.x).length = Z.length := List.length_map ..
  refine ⟨f, fun k hk => by (have e : g = k := by simpa [Value.ownBlock] using hk); subst e; exact hP, (Z.map fun z => encE z.c).flatten, ⟨?_, .inr ⟨g, cap, cur, ?_, hb, hh, ?_, hm, hs, ?_⟩⟩, ?_, ?_⟩
  · rw [hlen, List.length_zipIdx, hl]; rfl
  · rw [List.length_zipIdx, hl]
  · rw [List.length_zipIdx, hl]; exact hc
  · rw [List.length_zipIdx, hl]; exact ht
  · rw [hlen, List.length_zipIdx, hl]; rfl
  · intro j p hj
    rw [List.getElem?_zipIdx] at hj
    obtain ⟨x, hx, rfl⟩ := Option.map_eq_some_iff.mp hj
    have hjl : j < Z.length := by rw [← hl]; exact (List.getElem?_eq_some_iff.1 hx).1
    rw [List.getElem?_map, List.getElem?_eq_getElem hjl] at hx
    obtain rfl := Option.some.inj hx
    show (Kd.tag f k56).M _ _ _ _ ((((Z.map fun z => encE z.c).flatten).drop (j * 3)).take 3)
    rw [hdrop Z j hjl]
    have hM := hZ Z[j] (List.getElem_mem hjl)
    have hM2 := Kd.M_step (d := k56) (w1 := w') hM (fun k hk1 hlt => hk.2 k hlt (fun e => hk1.1.2 e))
    refine k56.M_mono (fun k hk1 => ⟨⟨hk1.1.1, fun e => hk1.1.2 (by simpa [Value.ownBlock] using e)⟩, ?_⟩) hM2
    show f k = 0 + j
    rw [Nat.zero_add]
    exact hf k j hjl hk1.2
end Go.Proofs.Ytaofjgnhapnndaa.Q
