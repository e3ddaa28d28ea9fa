/- Texts that the row needs: words on memory and rows, the contracts of the functions it reaches, and the plain lemmas on what they compute. -/
import Derived.Below
import Derived.Deep.Draws
import Derived.Deep.AppendLies
import Derived.Maps.AppendAt
import Derived.OwnWalk
import Derived.Laws.BytesArg
import Derived.Laws.MakeOwn
import Derived.Laws.OwnMore
import Derived.Deep.OwnRows
import Derived.Tactics
import Derived.Lib.ConvBytes
import Derived.Laws.Slices
import Derived.WalkKit
import Derived.KernelRfl
import Derived.RowKit3
import Derived.Deep.LoopGhost
import Derived.Deep.QuietTactic
import Derived.BigQuiet
import Derived.WideLaws
import Derived.Deep.DeepCutAuto
import Derived.Deep.CutBlock
import Derived.Deep.RegionHeld3
import Derived.Laws.Rows
import Derived.Lib.AppendStr
import Derived.ArgAppend
import Derived.Laws.IdiomCopy
import Derived.RowKit
import Derived.OrdersHeld
import Derived.Laws.BitsLemmas
import Derived.Laws.StructEq
import Derived.Test.YtaofjgnhapnndaaProg
import Derived.WalkLawsBesides
import Derived.Test.YtaofjgnhapnndaaRows
import Derived.ProofKit
import Derived.Test.YtaofjgnhapnndaaXEaa
import Derived.Test.YtaofjgnhapnndaaXEab
import Derived.Test.YtaofjgnhapnndaaXEac
import Derived.Test.YtaofjgnhapnndaaXEad
import Derived.Test.YtaofjgnhapnndaaXEae
import Derived.Test.YtaofjgnhapnndaaXEaf
open Go.Proofs.YtaofjgnhapnndaaFE
namespace Go.Proofs.Ytaofjgnhapnndaa.Q
open Go.RowKit Go.Proofs.YtaofjgnhapnndaaW.PrintWords Go.Proofs.YtaofjgnhapnndaaW.PrintLast Go.Proofs.YtaofjgnhapnndaaW.PrintMore
set_option linter.unusedVariables false
set_option linter.unusedSimpArgs false
theorem k56_mkF2 (W : World) (ok : Nat → Prop) (x : S56) {A1 : Option Addr} {c1 e base : Nat} {v2 : Value} (l1 : x.f1.length ≤ c1) (g1 : Kd.F Kd.string W ok A1 x.f1.length x.f1) (h : Kd.R Kd.string e W base ok v2 x.f2) : Kd.FK k56 W ok x [.string x.f0, .slice A1 x.f1.length c1, v2] := by
 obtain ⟨A, c, rfl⟩ := Kd.R_slice h
 exact k56_mkF W ok x l1 g1 (Kd.R_reads' h).2.1 (Kd.R_F h)
theorem k56_mkF1 (W : World) (ok : Nat → Prop) (x : S56) {A2 : Option Addr} {c2 e base : Nat} {v1 : Value} (h : Kd.R Kd.string e W base ok v1 x.f1) (l2 : x.f2.length ≤ c2) (g2 : Kd.F Kd.string W ok A2 x.f2.length x.f2) : Kd.FK k56 W ok x [.string x.f0, v1, .slice A2 x.f2.length c2] := by
 obtain ⟨A, c, rfl⟩ := Kd.R_slice h
 exact k56_mkF W ok x (Kd.R_reads' h).2.1 (Kd.R_F h) l2 g2
def spec_ShareLess.l0 : Nat → List ByteArray → Int → List ByteArray → Int → List ByteArray → List (S56) → List ByteArray → List (S56) → Option (List ByteArray × (List (S56)) × Int)
 | 0, _, _, _, _, _, _, _, _ => none
 | k + 1, x2, x9, x10, x11, x102000, x102001, x111000, x111001 => if 0 ≤ x9 then (if x9 < (x102001.length : Int) then (if x11 < (((rd_T56 x102001 x9).f1).length : Int) then (if 0 ≤ x11 then ((spec_l1Has.f k x2 (rdOf ByteArray.empty ((rd_T56 x102001 x9).f1) x11)).bind fun t120 => (if t120 = true then (if x10.length < 8796093022208 then (spec_ShareLess.l0 k x2 x9 (x10 ++ [rdOf ByteArray.empty ((rd_T56 x102001 x9).f1) x11]) (wrap64 (x11 + 1)) x102000 x102001 x111000 x111001) else (none)) else (spec_ShareLess.l0 k x2 x9 x10 (wrap64 (x11 + 1)) x102000 x102001 x111000 x111001))) else (none)) else ((spec_l1Names.f x2).bind fun t126 => (if x9 < (x111001.length : Int) then ((some (x111001.set (x9 : Int).toNat (⟨(rd_T56 x111001 x9).f0, (rd_T56 x111001 x9).f1, t126⟩ : S56) : List (S56))).bind fun y129 => ((spec_l1Copy.f k x111000 (y129.set (x9 : Int).toNat (⟨(rd_T56 y129 x9).f0, x10, (rd_T56 y129 x9).f2⟩ : S56))).bind fun bt131 => (some (bt131.1, bt131.2, 0)))) else (none)))) else (none)) else (none)
def spec_ShareLess.f (k : Nat) (l0_0 : List ByteArray) (l0_1 : List (S56)) (a1 : ByteArray) (l2 : List ByteArray) : Option (List ByteArray × (List (S56)) × Int) := (spec_ShareBookOk.f k l0_0 l0_1).bind fun t103 => (if t103 = true then ((spec_l1Copy.f k l0_0 l0_1).bind fun bt104 => ((spec_l1At.f k l0_0 l0_1 a1).bind fun t111 => (if t111 < 0 then (some (bt104.1, bt104.2, 3)) else (if 0 ≤ t111 then (if t111 < (l0_1.length : Int) then ((spec_l1NamesOk.f k l2 ((rd_T56 l0_1 t111).f2)).bind fun t113 => (if t113 = true then (spec_ShareLess.l0 k l2 t111 (([] : List ByteArray)) 0 l0_0 l0_1 bt104.1 bt104.2) else (some (bt104.1, bt104.2, 2)))) else (none)) else (none))))) else (some (([] : List ByteArray), ([] : List (S56)), 1)))
def spec_ShareLess.T15 : Bool × List (List Nat × List Nat) := (true, [([], []), ([0], [0]), ([], []), ([], []), ([3], [3]), ([1, 2, 0, 1, 2, 3, 4], [1, 2]), ([5, 0, 1, 2, 3, 4], [5]), ([6, 4, 4, 0, 1, 2, 3, 4], [4, 6])])
def spec_ShareLess.B15 : List Nat := [0, 1, 0, 0, 8, 31, 63, 127]
theorem spec_ShareLess.tab15 : rtab .any (opsOf Try.f49 15) = spec_ShareLess.T15 := by kernel_rfl
theorem spec_ShareLess.bits15 : waitsOk spec_ShareLess.T15.2 spec_ShareLess.B15 = true := by kernel_rfl
set_option maxHeartbeats 8000000 in
set_option maxRecDepth 100000 in
theorem spec_ShareLess.calls (k : Nat) (A0_0 : Option Addr) (c0_0 : Nat) (l0_0 : List ByteArray) (A0_1 : Option Addr) (c0_1 : Nat) (l0_1 : List (S56)) (a1 : ByteArray) (A2 : Option Addr) (c2 : Nat) (l2 : List ByteArray) (r1 : List ByteArray) (r2 : List (S56)) (r3 : Int) (w : World) (hr0_0 : Kd.C Kd.string w A0_0 l0_0.length l0_0) (hc0_0 : l0_0.length ≤ c0_0) (hr0_1 : Kd.C k56 w A0_1 l0_1.length l0_1) (hc0_1 : l0_1.length ≤ c0_1) (hr2 : Kd.C Kd.string w A2 l2.length l2) (hc2 : l2.length ≤ c2) (h : spec_ShareLess.f k l0_0 l0_1 a1 l2 = some (r1, r2, r3)) :
  Calls Try.prog 49 #[.agg #[.slice A0_0 l0_0.length c0_0, .slice A0_1 l0_1.length c0_1], .string a1, .slice A2 l2.length c2] w fun e w' => ∃ v0_ v1_ : Value, e = .returned (.tuple #[.agg #[v0_, v1_], .int .i64 r3]) ∧ Kd.R Kd.string 9 w' w.heap.size (fun k_ => (w.heap.size ≤ k_)) v0_ r1 ∧ Kd.N k56 56 w' w.heap.size (fun k_ => (w.heap.size ≤ k_) ∧ some k_ ≠ (v0_ : Value).ownBlock) v1_ r2 ∧ Below w.heap.size w w' := by
 have hu31 := Try.underlying31
 have HR0_0 := Aside0.mk hr0_0
 have HC0_0 := Aside0.mk hc0_0
 clear hr0_0 hc0_0
 have HR0_1 := Aside0.mk hr0_1
 have HC0_1 := Aside0.mk hc0_1
 clear hr0_1 hc0_1
 have HR2 := Aside0.mk hr2
 have HC2 := Aside0.mk hc2
 clear hr2 hc2
 have HB := Aside0.mk (Below.refl w.heap.size w)
 have H : ((spec_ShareBookOk.f k l0_0 l0_1).bind fun t103 => (if t103 = true then ((spec_l1Copy.f k l0_0 l0_1).bind fun bt104 => ((spec_l1At.f k l0_0 l0_1 a1).bind fun t111 => (if t111 < 0 then (some (bt104.1, bt104.2, 3)) else (if 0 ≤ t111 then (if t111 < (l0_1.length : Int) then ((spec_l1NamesOk.f k l2 ((rd_T56 l0_1 t111).f2)).bind fun t113 => (if t113 = true then (spec_ShareLess.l0 k l2 t111 (([] : List ByteArray)) 0 l0_0 l0_1 bt104.1 bt104.2) else (some (bt104.1, bt104.2, 2)))) else (none)) else (none))))) else (some (([] : List ByteArray), ([] : List (S56)), 1)))) = some (r1, r2, r3) := h
 clear h
 replace H := Option.bind_eq_some_iff.mp H
 obtain ⟨t103, A40, H⟩ := H
 replace H : (if t103 = true then ((spec_l1Copy.f k l0_0 l0_1).bind fun bt104 => ((spec_l1At.f k l0_0 l0_1 a1).bind fun t111 => (if t111 < 0 then (some (bt104.1, bt104.2, 3)) else (if 0 ≤ t111 then (if t111 < (l0_1.length : Int) then ((spec_l1NamesOk.f k l2 ((rd_T56 l0_1 t111).f2)).bind fun t113 => (if t113 = true then (spec_ShareLess.l0 k l2 t111 (([] : List ByteArray)) 0 l0_0 l0_1 bt104.1 bt104.2) else (some (bt104.1, bt104.2, 2)))) else (none)) else (none))))) else (some (([] : List ByteArray), ([] : List (S56)), 1))) = some (r1, r2, r3) := H
 have A4 := Aside0.mk A40
 clear A40
 by_cases c5 : t103 = true
 ·subst c5
  have H1 : ((spec_l1Copy.f k l0_0 l0_1).bind fun bt104 => ((spec_l1At.f k l0_0 l0_1 a1).bind fun t111 => (if t111 < 0 then (some (bt104.1, bt104.2, 3)) else (if 0 ≤ t111 then (if t111 < (l0_1.length : Int) then ((spec_l1NamesOk.f k l2 ((rd_T56 l0_1 t111).f2)).bind fun t113 => (if t113 = true then (spec_ShareLess.l0 k l2 t111 (([] : List ByteArray)) 0 l0_0 l0_1 bt104.1 bt104.2) else (some (bt104.1, bt104.2, 2)))) else (none)) else (none))))) = some (r1, r2, r3) := by rw [if_pos rfl] at H; exact H
  clear H
  have H := H1
  clear H1
  replace H := Option.bind_eq_some_iff.mp H
  obtain ⟨⟨t104, t107⟩, A60, H⟩ := H
  replace H : ((spec_l1At.f k l0_0 l0_1 a1).bind fun t111 => (if t111 < 0 then (some (t104, t107, 3)) else (if 0 ≤ t111 then (if t111 < (l0_1.length : Int) then ((spec_l1NamesOk.f k l2 ((rd_T56 l0_1 t111).f2)).bind fun t113 => (if t113 = true then (spec_ShareLess.l0 k l2 t111 (([] : List ByteArray)) 0 l0_0 l0_1 t104 t107) else (some (t104, t107, 2)))) else (none)) else (none)))) = some (r1, r2, r3) := H
  have A6 := Aside0.mk A60
  clear A60
  replace H := Option.bind_eq_some_iff.mp H
  obtain ⟨t111, A70, H⟩ := H
  replace H : (if t111 < 0 then (some (t104, t107, 3)) else (if 0 ≤ t111 then (if t111 < (l0_1.length : Int) then ((spec_l1NamesOk.f k l2 ((rd_T56 l0_1 t111).f2)).bind fun t113 => (if t113 = true then (spec_ShareLess.l0 k l2 t111 (([] : List ByteArray)) 0 l0_0 l0_1 t104 t107) else (some (t104, t107, 2)))) else (none)) else (none))) = some (r1, r2, r3) := H
  have A7 := Aside0.mk A70
  clear A70
  by_cases c8 : t111 < 0
  ·rw [if_pos c8] at H
   have c8b0 : decide (t111 < 0) = true := decide_eq_true c8
   clear c8
   simp only [Option.some.injEq, Prod.mk.injEq] at H
   obtain ⟨rfl, rfl, rfl⟩ := H
   go_enter Try.func49, Try.ntmps49
   go_wp2_with (first | ((with_reducible refine gate_dst (N := 3) rfl ?_); refine box_event ?hg (N := 3) ?hd (cs := #[.slice A0_0 l0_0.length c0_0, .slice A0_1 l0_1.length c0_1]) (t := 31) ?hr ?_; (case hd => rfl); (case hg => rfl); (case hr => (try (obtain ⟨Az_, cz_, ez_⟩ := Kd.R_slice HO128.out; subst ez_)); (try (obtain ⟨Az_, cz_, ez_⟩ := Kd.R_slice HO_10.out; subst ez_)); first | (go_simp; done) | (go_simp; rfl)); intro gb101 hg w9 hbox hb; have n0_ := Aside0.mk (below_step (pY36) hb); have n1_ := Aside0.mk (hbox); have n2_ := Aside0.mk ((pY33 : w.heap.size ≤ gb101)); have n3_ := Aside0.mk ((pY33 : w.heap.size ≤ gb101)); clear HB; have HB := n0_; have BK101 := n1_; have GW101 := n2_; have GE101 := n3_; clear n0_ n1_ n2_ n3_; clear hb hbox hg) | ((with_reducible refine gate_dst (N := 6) rfl ?_); refine box_event ?hg (N := 6) ?hd (cs := #[.slice none 0 0, .slice none 0 0]) (t := 31) ?hr ?_; (case hd => rfl); (case hg => rfl); (case hr => (try (obtain ⟨Az_, cz_, ez_⟩ := Kd.R_slice HO128.out; subst ez_)); (try (obtain ⟨Az_, cz_, ez_⟩ := Kd.R_slice HO_10.out; subst ez_)); first | (go_simp; done) | (go_simp; rfl)); intro gb102 hg w10 hbox hb; have n0_ := Aside0.mk (blk_below (g := gb101) (o := .cells #[.slice A0_0 l0_0.length c0_0, .slice A0_1 l0_1.length c0_1] 31 (0, 0)) (pY37) hb); have n1_ := Aside0.mk (below_step (pY34) hb); have n2_ := Aside0.mk (hbox); have n3_ := Aside0.mk ((pY26 : w.heap.size ≤ gb102)); have n4_ := Aside0.mk ((pY26 : w.heap.size ≤ gb102)); have n5_ := Aside0.mk ((pY16 : gb101 ≠ gb102)); have n6_ := Aside0.mk ((pY17 : gb102 ≠ gb101)); clear BK101; clear HB; have BK101 := n0_; have HB := n1_; have BK102 := n2_; have GW102 := n3_; have GE102 := n4_; have NB101_102 := n5_; have NB102_101 := n6_; clear n0_ n1_ n2_ n3_ n4_ n5_ n6_; clear hb hbox hg; have hnb11 := NB101_102.out; have hnc11 := NB102_101.out; have hcz12_0 : w10.cell? ⟨gb101, 0, none⟩ = some (.slice A0_0 l0_0.length c0_0) := (blk_cell BK101.out 0).trans rfl; have hcz12_1 : w10.cell? ⟨gb101, 1, none⟩ = some (.slice A0_1 l0_1.length c0_1) := (blk_cell BK101.out 1).trans rfl; have hfz12_0 := blk_frozen BK101.out 0; have hfz12_1 := blk_frozen BK101.out 1) | ((with_reducible refine gate_callee (f := 22) rfl ?_); refine goesL_ (some 13) rfl rfl Try.func22 (by kernel_rfl) rfl #[.agg #[.slice A0_0 l0_0.length c0_0, .slice A0_1 l0_1.length c0_1]] rfl (pY35) ?_; (with_reducible refine (spec_ShareBookOk.calls k _ _ l0_0 _ _ l0_1 true _ ?side1 ?side2 ?side3 ?side4 A4.out).mono ?_); (case side1 => exact pC (Kd.C_below HR0_0.out HB.out)); (case side2 => exact HC0_0.out); (case side3 => exact pC (Kd.C_below HR0_1.out HB.out)); (case side4 => exact HC0_1.out); rintro e w13 ⟨rfl, hb⟩; refine ⟨_, rfl, ?_⟩; have n0_ := Aside0.mk (blk_below (g := gb101) (o := .cells #[.slice A0_0 l0_0.length c0_0, .slice A0_1 l0_1.length c0_1] 31 (0, 0)) (pY37) hb); have n1_ := Aside0.mk (blk_below (g := gb102) (o := .cells #[.slice none 0 0, .slice none 0 0] 31 (0, 0)) (pY38) hb); have n2_ := Aside0.mk (below_step (pY27) hb); clear BK101; clear BK102; clear HB; have BK101 := n0_; have BK102 := n1_; have HB := n2_; clear n0_ n1_ n2_; (try clear hb); (try clear hb2); (try clear hk); (try clear hi); have hcz14_0 : w13.cell? ⟨gb101, 0, none⟩ = some (.slice A0_0 l0_0.length c0_0) := (blk_cell BK101.out 0).trans rfl; have hcz14_1 : w13.cell? ⟨gb101, 1, none⟩ = some (.slice A0_1 l0_1.length c0_1) := (blk_cell BK101.out 1).trans rfl; have hfz14_0 := blk_frozen BK101.out 0; have hfz14_1 := blk_frozen BK101.out 1) | ((with_reducible refine gate_callee (f := 89) rfl ?_); refine goesL_ (some 17) rfl rfl Try.func89 (by kernel_rfl) rfl #[.agg #[.slice A0_0 l0_0.length c0_0, .slice A0_1 l0_1.length c0_1]] rfl (pY35) ?_; (with_reducible refine (spec_l1Copy.calls k _ _ l0_0 _ _ l0_1 t104 t107 _ ?side1 ?side2 ?side3 ?side4 A6.out).mono ?_); (case side1 => exact pC (Kd.C_below HR0_0.out HB.out)); (case side2 => exact HC0_0.out); (case side3 => exact pC (Kd.C_below HR0_1.out HB.out)); (case side4 => exact HC0_1.out); rintro e w15 ⟨v105, v108, rfl, ho0, ho1, hb⟩; refine ⟨_, rfl, ?_⟩; have n0_ := Aside0.mk (Kd.R_lower (Kd.R_newM (M := fun k_ => (w.heap.size ≤ k_)) ho0 (below_size (pY27)) (fun k_ h_ => h_)) (below_size (pY27))); have n1_ := Aside0.mk (Kd.N_lower (Kd.N_mono (ok' := fun k_ => (w.heap.size ≤ k_) ∧ some k_ ≠ (v105 : Value).ownBlock ∧ k_ ≠ gb101 ∧ k_ ≠ gb102) (Kd.S_N (Kd.S_bound ho1)) (fun k_ hk_ => ⟨(Nat.le_trans (below_size (pY27)) hk_.2.1), hk_.1, (Kd.freshB (g := gb101) (o := .cells #[.slice A0_0 l0_0.length c0_0, .slice A0_1 l0_1.length c0_1] 31 (0, 0)) (pY37) k_ hk_.2.1), (Kd.freshB (g := gb102) (o := .cells #[.slice none 0 0, .slice none 0 0] 31 (0, 0)) (pY38) k_ hk_.2.1)⟩)) (below_size (pY27))); have n2_ := Aside0.mk (blk_below (g := gb101) (o := .cells #[.slice A0_0 l0_0.length c0_0, .slice A0_1 l0_1.length c0_1] 31 (0, 0)) (pY37) hb); have n3_ := Aside0.mk (blk_below (g := gb102) (o := .cells #[.slice none 0 0, .slice none 0 0] 31 (0, 0)) (pY38) hb); have n4_ := Aside0.mk (below_step (pY27) hb); clear BK101; clear BK102; clear HB; have HO106 := n0_; have HO109 := n1_; have BK101 := n2_; have BK102 := n3_; have HB := n4_; clear n0_ n1_ n2_ n3_ n4_; (try clear hb); (try clear hb2); (try clear hk); (try clear hi); (try clear ho0); (try clear ho1)) | ((with_reducible refine gate_dst (N := 8) rfl ?_); refine box_event ?hg (N := 8) ?hd (cs := #[.slice none 0 0, .slice none 0 0]) (t := 31) ?hr ?_; (case hd => rfl); (case hg => rfl); (case hr => (try (obtain ⟨Az_, cz_, ez_⟩ := Kd.R_slice HO128.out; subst ez_)); (try (obtain ⟨Az_, cz_, ez_⟩ := Kd.R_slice HO_10.out; subst ez_)); first | (go_simp; done) | (go_simp; rfl)); intro gb110 hg w16 hbox hb; have n0_ := Aside0.mk (Kd.R_below (pY45) hb); have n1_ := Aside0.mk (Kd.N_below (Kd.N_elderB (pY46) gb110 (Nat.le_of_eq hg.symm)) hb); have n2_ := Aside0.mk (blk_below (g := gb101) (o := .cells #[.slice A0_0 l0_0.length c0_0, .slice A0_1 l0_1.length c0_1] 31 (0, 0)) (pY37) hb); have n3_ := Aside0.mk (blk_below (g := gb102) (o := .cells #[.slice none 0 0, .slice none 0 0] 31 (0, 0)) (pY38) hb); have n4_ := Aside0.mk (below_step (pY27) hb); have n5_ := Aside0.mk (hbox); have n6_ := Aside0.mk ((pY20 : w.heap.size ≤ gb110)); have n7_ := Aside0.mk ((pY20 : w.heap.size ≤ gb110)); have n8_ := Aside0.mk ((pY16 : gb101 ≠ gb110)); have n9_ := Aside0.mk ((pY17 : gb110 ≠ gb101)); have n10_ := Aside0.mk ((pY18 : gb102 ≠ gb110)); have n11_ := Aside0.mk ((pY19 : gb110 ≠ gb102)); clear HO106; clear HO109; clear BK101; clear BK102; clear HB; have HO106 := n0_; have HO109 := n1_; have BK101 := n2_; have BK102 := n3_; have HB := n4_; have BK110 := n5_; have GW110 := n6_; have GE110 := n7_; have NB101_110 := n8_; have NB110_101 := n9_; have NB102_110 := n10_; have NB110_102 := n11_; clear n0_ n1_ n2_ n3_ n4_ n5_ n6_ n7_ n8_ n9_ n10_ n11_; clear hb hbox hg; obtain ⟨Ao17, co17, eo17⟩ := Kd.R_slice HO106.out; subst eo17; have hnb18 := NB110_101.out; have hnc18 := NB101_110.out; have hnb19 := NB110_102.out; have hnc19 := NB102_110.out; have hcz20_0 : w16.cell? ⟨gb110, 0, none⟩ = some (.slice none 0 0) := (blk_cell BK110.out 0).trans rfl; have hcz20_1 : w16.cell? ⟨gb110, 1, none⟩ = some (.slice none 0 0) := (blk_cell BK110.out 1).trans rfl; have hfz20_0 := blk_frozen BK110.out 0; have hfz20_1 := blk_frozen BK110.out 1; obtain ⟨Ao21, co21, eo21⟩ := Kd.N_slice HO109.out; subst eo21; have hcz22_0 : w16.cell? ⟨gb101, 0, none⟩ = some (.slice A0_0 l0_0.length c0_0) := (blk_cell BK101.out 0).trans rfl; have hcz22_1 : w16.cell? ⟨gb101, 1, none⟩ = some (.slice A0_1 l0_1.length c0_1) := (blk_cell BK101.out 1).trans rfl; have hfz22_0 := blk_frozen BK101.out 0; have hfz22_1 := blk_frozen BK101.out 1) | ((with_reducible refine gate_callee (f := 82) rfl ?_); refine goesL_ (some 20) rfl rfl Try.func82 (by kernel_rfl) rfl #[.agg #[.slice A0_0 l0_0.length c0_0, .slice A0_1 l0_1.length c0_1], .string a1] rfl (pY35) ?_; (with_reducible refine (spec_l1At.calls k _ _ l0_0 _ _ l0_1 a1 t111 _ ?side1 ?side2 ?side3 ?side4 A7.out).mono ?_); (case side1 => exact Kd.C_below HR0_0.out (pY24)); (case side2 => exact HC0_0.out); (case side3 => exact Kd.C_below HR0_1.out (pY24)); (case side4 => exact HC0_1.out); rintro e w23 ⟨rfl, hb⟩; refine ⟨_, rfl, ?_⟩; have n0_ := Aside0.mk (Kd.R_below (by (with_reducible repeat (first | apply Kd.R_alloc | apply Kd.R_drewN | apply Kd.R_drew)); exact (Kd.R_mono (Kd.R_far (p := ⟨gb110, 1, none⟩) (Kd.R_far (p := ⟨gb110, 0, none⟩) (Kd.R_types HO106.out BK110.out (by decide)) (fun _ hk => hk.2) (.slice Ao17 t104.length co17)) (fun _ hk => hk.2) (.slice Ao21 t107.length co21)) (fun _ h_ => h_.1))) hb); have n1_ := Aside0.mk (Kd.N_below (by (with_reducible repeat (first | apply Kd.N_alloc | apply Kd.N_drewN | apply Kd.N_drew)); exact (Kd.N_mono (Kd.N_far (p := ⟨gb110, 1, none⟩) (Kd.N_far (p := ⟨gb110, 0, none⟩) (Kd.N_mono HO109.out (fun k_ hk => (⟨hk, hk.2⟩ : _ ∧ k_ ≠ gb110))) (fun _ hk => hk.2) (.slice Ao17 t104.length co17)) (fun _ hk => hk.2) (.slice Ao21 t107.length co21)) (fun _ h_ => h_.1))) hb); have n2_ := Aside0.mk (blk_below (g := gb101) (o := .cells #[.slice A0_0 l0_0.length c0_0, .slice A0_1 l0_1.length c0_1] 31 (0, 0)) (pY5) hb); have n3_ := Aside0.mk (blk_below (g := gb102) (o := .cells #[.slice none 0 0, .slice none 0 0] 31 (0, 0)) (pY6) hb); have n4_ := Aside0.mk (blk_below (g := gb110) (o := .cells #[.slice Ao17 t104.length co17, .slice Ao21 t107.length co21] 31 (0, 0)) (by (with_reducible repeat (first | refine blk_drewN ?_ _ | refine blk_drew ?_ | refine blk_alloc ?_ _)); refine blk_put (cs := #[.slice Ao17 t104.length co17, .slice none 0 0]) ?_ 1 _ rfl; (with_reducible repeat (first | refine blk_drewN ?_ _ | refine blk_drew ?_ | refine blk_alloc ?_ _)); refine blk_put (cs := #[.slice none 0 0, .slice none 0 0]) ?_ 0 _ rfl; (with_reducible repeat (first | refine blk_drewN ?_ _ | refine blk_drew ?_ | refine blk_alloc ?_ _)); exact BK110.out) hb); have n5_ := Aside0.mk (below_step (pY24) hb); clear HO106; clear HO109; clear BK101; clear BK102; clear BK110; clear HB; have HO106 := n0_; have HO109 := n1_; have BK101 := n2_; have BK102 := n3_; have BK110 := n4_; have HB := n5_; clear n0_ n1_ n2_ n3_ n4_ n5_; (try clear hb); (try clear hb2); (try clear hk); (try clear hi); have hcz24_0 : w23.cell? ⟨gb110, 0, none⟩ = some (.slice Ao17 t104.length co17) := (blk_cell BK110.out 0).trans rfl; have hcz24_1 : w23.cell? ⟨gb110, 1, none⟩ = some (.slice Ao21 t107.length co21) := (blk_cell BK110.out 1).trans rfl; have hfz24_0 := blk_frozen BK110.out 0; have hfz24_1 := blk_frozen BK110.out 1; have hcz25_0 : w23.cell? ⟨gb102, 0, none⟩ = some (.slice none 0 0) := (blk_cell BK102.out 0).trans rfl; have hcz25_1 : w23.cell? ⟨gb102, 1, none⟩ = some (.slice none 0 0) := (blk_cell BK102.out 1).trans rfl; have hfz25_0 := blk_frozen BK102.out 0; have hfz25_1 := blk_frozen BK102.out 1))
   refine bodyPost_ret (results_ct rfl _ _ gb102 31 #[.slice Ao17 t104.length co17, .slice Ao21 t107.length co21] (0, 0) _ rfl (by (with_reducible repeat (first | refine blk_drewN ?_ _ | refine blk_drew ?_ | refine blk_alloc ?_ _)); refine blk_put (cs := #[.slice Ao17 t104.length co17, .slice none 0 0]) ?_ 1 _ rfl; (with_reducible repeat (first | refine blk_drewN ?_ _ | refine blk_drew ?_ | refine blk_alloc ?_ _)); refine blk_put (cs := #[.slice none 0 0, .slice none 0 0]) ?_ 0 _ rfl; (with_reducible repeat (first | refine blk_drewN ?_ _ | refine blk_drew ?_ | refine blk_alloc ?_ _)); exact BK102.out) Try.underlying31 rfl (by kernel_rfl)) rfl ?_
   exact ⟨_, _, by first | rfl | (simp [errW_none, errW_some] <;> rfl) | (simp [*, errW_none, errW_some] <;> rfl), by (with_reducible repeat (first | apply Kd.R_alloc | apply Kd.R_drewN | apply Kd.R_drew)); exact Kd.R_mono (Kd.R_far (p := ⟨gb102, 1, none⟩) (Kd.R_far (p := ⟨gb102, 0, none⟩) (Kd.R_types HO106.out BK102.out (by decide)) (fun _ hk => hk.2) (.slice Ao17 t104.length co17)) (fun _ hk => hk.2) (.slice Ao21 t107.length co21)) (fun _ hk => hk.1.1), by (with_reducible repeat (first | apply Kd.N_alloc | apply Kd.N_drewN | apply Kd.N_drew)); exact Kd.N_mono (Kd.N_far (p := ⟨gb102, 1, none⟩) (Kd.N_far (p := ⟨gb102, 0, none⟩) (Kd.N_mono HO109.out (fun k_ hk => (⟨hk, hk.1.2.2.2⟩ : _ ∧ k_ ≠ gb102))) (fun _ hk => hk.2) (.slice Ao17 t104.length co17)) (fun _ hk => hk.2) (.slice Ao21 t107.length co21)) (fun _ hk => ⟨hk.1.1.1, hk.1.1.2.1⟩), pY24⟩
  ·rw [if_neg c8] at H
   have c8b0 : decide (t111 < 0) = false := decide_eq_false c8
   clear c8
   by_cases c26 : 0 ≤ t111
   ·rw [if_pos c26] at H
    have c26b0 : decide (0 ≤ t111) = true := decide_eq_true c26
    clear c26
    by_cases c27 : t111 < (l0_1.length : Int)
    ·rw [if_pos c27] at H
     have c27b0 : decide (t111 < (l0_1.length : Int)) = true := decide_eq_true c27
     clear c27
     replace H := Option.bind_eq_some_iff.mp H
     obtain ⟨t113, A280, H⟩ := H
     replace H : (if t113 = true then (spec_ShareLess.l0 k l2 t111 (([] : List ByteArray)) 0 l0_0 l0_1 t104 t107) else (some (t104, t107, 2))) = some (r1, r2, r3) := H
     have A28 := Aside0.mk A280
     clear A280
     by_cases c29 : t113 = true
     ·subst c29
      have H1 : (spec_ShareLess.l0 k l2 t111 (([] : List ByteArray)) 0 l0_0 l0_1 t104 t107) = some (r1, r2, r3) := by rw [if_pos rfl] at H; exact H
      clear H
      have H := H1
      clear H1
      obtain ⟨y114, hy114⟩ : ∃ y_ : List ByteArray, y_ = (([] : List ByteArray)) := ⟨_, rfl⟩
      replace H : (spec_ShareLess.l0 k l2 t111 y114 0 l0_0 l0_1 t104 t107) = some (r1, r2, r3) := by first | (rw [hy114]; with_reducible exact H) | (have H2_ := (Option.bind_some _ _).symm.trans H; rw [hy114]; with_reducible exact H2_) | (have H2_ := (Option.bind_some _ _).symm.trans H; with_reducible exact H2_) | with_reducible exact H | (rw [hy114]; exact H) | exact H
      have Ny114 := Aside0.mk hy114
      clear hy114
      have H' := Aside0.mk H
      clear H
      go_enter Try.func49, Try.ntmps49
      go_wp2_with (first | ((with_reducible refine gate_dst (N := 3) rfl ?_); refine box_event ?hg (N := 3) ?hd (cs := #[.slice A0_0 l0_0.length c0_0, .slice A0_1 l0_1.length c0_1]) (t := 31) ?hr ?_; (case hd => rfl); (case hg => rfl); (case hr => (try (obtain ⟨Az_, cz_, ez_⟩ := Kd.R_slice HO128.out; subst ez_)); (try (obtain ⟨Az_, cz_, ez_⟩ := Kd.R_slice HO_10.out; subst ez_)); first | (go_simp; done) | (go_simp; rfl)); intro gb101 hg w30 hbox hb; have n0_ := Aside0.mk (below_step (pY36) hb); have n1_ := Aside0.mk (hbox); have n2_ := Aside0.mk ((pY33 : w.heap.size ≤ gb101)); have n3_ := Aside0.mk ((pY33 : w.heap.size ≤ gb101)); clear HB; have HB := n0_; have BK101 := n1_; have GW101 := n2_; have GE101 := n3_; clear n0_ n1_ n2_ n3_; clear hb hbox hg) | ((with_reducible refine gate_dst (N := 6) rfl ?_); refine box_event ?hg (N := 6) ?hd (cs := #[.slice none 0 0, .slice none 0 0]) (t := 31) ?hr ?_; (case hd => rfl); (case hg => rfl); (case hr => (try (obtain ⟨Az_, cz_, ez_⟩ := Kd.R_slice HO128.out; subst ez_)); (try (obtain ⟨Az_, cz_, ez_⟩ := Kd.R_slice HO_10.out; subst ez_)); first | (go_simp; done) | (go_simp; rfl)); intro gb102 hg w31 hbox hb; have n0_ := Aside0.mk (blk_below (g := gb101) (o := .cells #[.slice A0_0 l0_0.length c0_0, .slice A0_1 l0_1.length c0_1] 31 (0, 0)) (pY37) hb); have n1_ := Aside0.mk (below_step (pY34) hb); have n2_ := Aside0.mk (hbox); have n3_ := Aside0.mk ((pY26 : w.heap.size ≤ gb102)); have n4_ := Aside0.mk ((pY26 : w.heap.size ≤ gb102)); have n5_ := Aside0.mk ((pY16 : gb101 ≠ gb102)); have n6_ := Aside0.mk ((pY17 : gb102 ≠ gb101)); clear BK101; clear HB; have BK101 := n0_; have HB := n1_; have BK102 := n2_; have GW102 := n3_; have GE102 := n4_; have NB101_102 := n5_; have NB102_101 := n6_; clear n0_ n1_ n2_ n3_ n4_ n5_ n6_; clear hb hbox hg; have hnb32 := NB101_102.out; have hnc32 := NB102_101.out; have hcz33_0 : w31.cell? ⟨gb101, 0, none⟩ = some (.slice A0_0 l0_0.length c0_0) := (blk_cell BK101.out 0).trans rfl; have hcz33_1 : w31.cell? ⟨gb101, 1, none⟩ = some (.slice A0_1 l0_1.length c0_1) := (blk_cell BK101.out 1).trans rfl; have hfz33_0 := blk_frozen BK101.out 0; have hfz33_1 := blk_frozen BK101.out 1) | ((with_reducible refine gate_callee (f := 22) rfl ?_); refine goesL_ (some 13) rfl rfl Try.func22 (by kernel_rfl) rfl #[.agg #[.slice A0_0 l0_0.length c0_0, .slice A0_1 l0_1.length c0_1]] rfl (pY35) ?_; (with_reducible refine (spec_ShareBookOk.calls k _ _ l0_0 _ _ l0_1 true _ ?side1 ?side2 ?side3 ?side4 A4.out).mono ?_); (case side1 => exact pC (Kd.C_below HR0_0.out HB.out)); (case side2 => exact HC0_0.out); (case side3 => exact pC (Kd.C_below HR0_1.out HB.out)); (case side4 => exact HC0_1.out); rintro e w34 ⟨rfl, hb⟩; refine ⟨_, rfl, ?_⟩; have n0_ := Aside0.mk (blk_below (g := gb101) (o := .cells #[.slice A0_0 l0_0.length c0_0, .slice A0_1 l0_1.length c0_1] 31 (0, 0)) (pY37) hb); have n1_ := Aside0.mk (blk_below (g := gb102) (o := .cells #[.slice none 0 0, .slice none 0 0] 31 (0, 0)) (pY38) hb); have n2_ := Aside0.mk (below_step (pY27) hb); clear BK101; clear BK102; clear HB; have BK101 := n0_; have BK102 := n1_; have HB := n2_; clear n0_ n1_ n2_; (try clear hb); (try clear hb2); (try clear hk); (try clear hi); have hcz35_0 : w34.cell? ⟨gb101, 0, none⟩ = some (.slice A0_0 l0_0.length c0_0) := (blk_cell BK101.out 0).trans rfl; have hcz35_1 : w34.cell? ⟨gb101, 1, none⟩ = some (.slice A0_1 l0_1.length c0_1) := (blk_cell BK101.out 1).trans rfl; have hfz35_0 := blk_frozen BK101.out 0; have hfz35_1 := blk_frozen BK101.out 1) | ((with_reducible refine gate_callee (f := 89) rfl ?_); refine goesL_ (some 17) rfl rfl Try.func89 (by kernel_rfl) rfl #[.agg #[.slice A0_0 l0_0.length c0_0, .slice A0_1 l0_1.length c0_1]] rfl (pY35) ?_; (with_reducible refine (spec_l1Copy.calls k _ _ l0_0 _ _ l0_1 t104 t107 _ ?side1 ?side2 ?side3 ?side4 A6.out).mono ?_); (case side1 => exact pC (Kd.C_below HR0_0.out HB.out)); (case side2 => exact HC0_0.out); (case side3 => exact pC (Kd.C_below HR0_1.out HB.out)); (case side4 => exact HC0_1.out); rintro e w36 ⟨v105, v108, rfl, ho0, ho1, hb⟩; refine ⟨_, rfl, ?_⟩; have n0_ := Aside0.mk (Kd.R_lower (Kd.R_newM (M := fun k_ => (w.heap.size ≤ k_)) ho0 (below_size (pY27)) (fun k_ h_ => h_)) (below_size (pY27))); have n1_ := Aside0.mk (Kd.N_lower (Kd.N_mono (ok' := fun k_ => (w.heap.size ≤ k_) ∧ some k_ ≠ (v105 : Value).ownBlock ∧ k_ ≠ gb101 ∧ k_ ≠ gb102) (Kd.S_N (Kd.S_bound ho1)) (fun k_ hk_ => ⟨(Nat.le_trans (below_size (pY27)) hk_.2.1), hk_.1, (Kd.freshB (g := gb101) (o := .cells #[.slice A0_0 l0_0.length c0_0, .slice A0_1 l0_1.length c0_1] 31 (0, 0)) (pY37) k_ hk_.2.1), (Kd.freshB (g := gb102) (o := .cells #[.slice none 0 0, .slice none 0 0] 31 (0, 0)) (pY38) k_ hk_.2.1)⟩)) (below_size (pY27))); have n2_ := Aside0.mk (blk_below (g := gb101) (o := .cells #[.slice A0_0 l0_0.length c0_0, .slice A0_1 l0_1.length c0_1] 31 (0, 0)) (pY37) hb); have n3_ := Aside0.mk (blk_below (g := gb102) (o := .cells #[.slice none 0 0, .slice none 0 0] 31 (0, 0)) (pY38) hb); have n4_ := Aside0.mk (below_step (pY27) hb); clear BK101; clear BK102; clear HB; have HO106 := n0_; have HO109 := n1_; have BK101 := n2_; have BK102 := n3_; have HB := n4_; clear n0_ n1_ n2_ n3_ n4_; (try clear hb); (try clear hb2); (try clear hk); (try clear hi); (try clear ho0); (try clear ho1)) | ((with_reducible refine gate_dst (N := 8) rfl ?_); refine box_event ?hg (N := 8) ?hd (cs := #[.slice none 0 0, .slice none 0 0]) (t := 31) ?hr ?_; (case hd => rfl); (case hg => rfl); (case hr => (try (obtain ⟨Az_, cz_, ez_⟩ := Kd.R_slice HO128.out; subst ez_)); (try (obtain ⟨Az_, cz_, ez_⟩ := Kd.R_slice HO_10.out; subst ez_)); first | (go_simp; done) | (go_simp; rfl)); intro gb110 hg w37 hbox hb; have n0_ := Aside0.mk (Kd.R_below (pY45) hb); have n1_ := Aside0.mk (Kd.N_below (Kd.N_elderB (pY46) gb110 (Nat.le_of_eq hg.symm)) hb); have n2_ := Aside0.mk (blk_below (g := gb101) (o := .cells #[.slice A0_0 l0_0.length c0_0, .slice A0_1 l0_1.length c0_1] 31 (0, 0)) (pY37) hb); have n3_ := Aside0.mk (blk_below (g := gb102) (o := .cells #[.slice none 0 0, .slice none 0 0] 31 (0, 0)) (pY38) hb); have n4_ := Aside0.mk (below_step (pY27) hb); have n5_ := Aside0.mk (hbox); have n6_ := Aside0.mk ((pY20 : w.heap.size ≤ gb110)); have n7_ := Aside0.mk ((pY20 : w.heap.size ≤ gb110)); have n8_ := Aside0.mk ((pY16 : gb101 ≠ gb110)); have n9_ := Aside0.mk ((pY17 : gb110 ≠ gb101)); have n10_ := Aside0.mk ((pY18 : gb102 ≠ gb110)); have n11_ := Aside0.mk ((pY19 : gb110 ≠ gb102)); clear HO106; clear HO109; clear BK101; clear BK102; clear HB; have HO106 := n0_; have HO109 := n1_; have BK101 := n2_; have BK102 := n3_; have HB := n4_; have BK110 := n5_; have GW110 := n6_; have GE110 := n7_; have NB101_110 := n8_; have NB110_101 := n9_; have NB102_110 := n10_; have NB110_102 := n11_; clear n0_ n1_ n2_ n3_ n4_ n5_ n6_ n7_ n8_ n9_ n10_ n11_; clear hb hbox hg; obtain ⟨Ao38, co38, eo38⟩ := Kd.R_slice HO106.out; subst eo38; have hnb39 := NB110_101.out; have hnc39 := NB101_110.out; have hnb40 := NB110_102.out; have hnc40 := NB102_110.out; have hcz41_0 : w37.cell? ⟨gb110, 0, none⟩ = some (.slice none 0 0) := (blk_cell BK110.out 0).trans rfl; have hcz41_1 : w37.cell? ⟨gb110, 1, none⟩ = some (.slice none 0 0) := (blk_cell BK110.out 1).trans rfl; have hfz41_0 := blk_frozen BK110.out 0; have hfz41_1 := blk_frozen BK110.out 1; obtain ⟨Ao42, co42, eo42⟩ := Kd.N_slice HO109.out; subst eo42; have hcz43_0 : w37.cell? ⟨gb101, 0, none⟩ = some (.slice A0_0 l0_0.length c0_0) := (blk_cell BK101.out 0).trans rfl; have hcz43_1 : w37.cell? ⟨gb101, 1, none⟩ = some (.slice A0_1 l0_1.length c0_1) := (blk_cell BK101.out 1).trans rfl; have hfz43_0 := blk_frozen BK101.out 0; have hfz43_1 := blk_frozen BK101.out 1) | ((with_reducible refine gate_callee (f := 82) rfl ?_); refine goesL_ (some 20) rfl rfl Try.func82 (by kernel_rfl) rfl #[.agg #[.slice A0_0 l0_0.length c0_0, .slice A0_1 l0_1.length c0_1], .string a1] rfl (pY35) ?_; (with_reducible refine (spec_l1At.calls k _ _ l0_0 _ _ l0_1 a1 t111 _ ?side1 ?side2 ?side3 ?side4 A7.out).mono ?_); (case side1 => exact Kd.C_below HR0_0.out (pY24)); (case side2 => exact HC0_0.out); (case side3 => exact Kd.C_below HR0_1.out (pY24)); (case side4 => exact HC0_1.out); rintro e w44 ⟨rfl, hb⟩; refine ⟨_, rfl, ?_⟩; have n0_ := Aside0.mk (Kd.R_below (by (with_reducible repeat (first | apply Kd.R_alloc | apply Kd.R_drewN | apply Kd.R_drew)); exact (Kd.R_mono (Kd.R_far (p := ⟨gb110, 1, none⟩) (Kd.R_far (p := ⟨gb110, 0, none⟩) (Kd.R_types HO106.out BK110.out (by decide)) (fun _ hk => hk.2) (.slice Ao38 t104.length co38)) (fun _ hk => hk.2) (.slice Ao42 t107.length co42)) (fun _ h_ => h_.1))) hb); have n1_ := Aside0.mk (Kd.N_below (by (with_reducible repeat (first | apply Kd.N_alloc | apply Kd.N_drewN | apply Kd.N_drew)); exact (Kd.N_mono (Kd.N_far (p := ⟨gb110, 1, none⟩) (Kd.N_far (p := ⟨gb110, 0, none⟩) (Kd.N_mono HO109.out (fun k_ hk => (⟨hk, hk.2⟩ : _ ∧ k_ ≠ gb110))) (fun _ hk => hk.2) (.slice Ao38 t104.length co38)) (fun _ hk => hk.2) (.slice Ao42 t107.length co42)) (fun _ h_ => h_.1))) hb); have n2_ := Aside0.mk (blk_below (g := gb101) (o := .cells #[.slice A0_0 l0_0.length c0_0, .slice A0_1 l0_1.length c0_1] 31 (0, 0)) (pY5) hb); have n3_ := Aside0.mk (blk_below (g := gb102) (o := .cells #[.slice none 0 0, .slice none 0 0] 31 (0, 0)) (pY6) hb); have n4_ := Aside0.mk (blk_below (g := gb110) (o := .cells #[.slice Ao38 t104.length co38, .slice Ao42 t107.length co42] 31 (0, 0)) (by (with_reducible repeat (first | refine blk_drewN ?_ _ | refine blk_drew ?_ | refine blk_alloc ?_ _)); refine blk_put (cs := #[.slice Ao38 t104.length co38, .slice none 0 0]) ?_ 1 _ rfl; (with_reducible repeat (first | refine blk_drewN ?_ _ | refine blk_drew ?_ | refine blk_alloc ?_ _)); refine blk_put (cs := #[.slice none 0 0, .slice none 0 0]) ?_ 0 _ rfl; (with_reducible repeat (first | refine blk_drewN ?_ _ | refine blk_drew ?_ | refine blk_alloc ?_ _)); exact BK110.out) hb); have n5_ := Aside0.mk (below_step (pY24) hb); clear HO106; clear HO109; clear BK101; clear BK102; clear BK110; clear HB; have HO106 := n0_; have HO109 := n1_; have BK101 := n2_; have BK102 := n3_; have BK110 := n4_; have HB := n5_; clear n0_ n1_ n2_ n3_ n4_ n5_; (try clear hb); (try clear hb2); (try clear hk); (try clear hi); have hcz45_0 : w44.cell? ⟨gb101, 0, none⟩ = some (.slice A0_0 l0_0.length c0_0) := (blk_cell BK101.out 0).trans rfl; have hcz45_1 : w44.cell? ⟨gb101, 1, none⟩ = some (.slice A0_1 l0_1.length c0_1) := (blk_cell BK101.out 1).trans rfl; have hfz45_0 := blk_frozen BK101.out 0; have hfz45_1 := blk_frozen BK101.out 1; have p112 : 0 ≤ (t111 : Int) := of_decide_eq_true (pY50); have q112 : t111 < (l0_1.length : Int) := of_decide_eq_true (pY50); obtain ⟨ad112, A112_1, c112_1, A112_2, c112_2, e112, hx112_0, hx112_1, hx112_2, hl112_1, hi112_1, hl112_2, hi112_2⟩ := at_T56 HR0_1.out t111 p112 q112; cases e112; replace hx112_0 := (HB.out.cell (World.block_lt_of_cell? w _ hx112_0)).trans hx112_0; replace hx112_1 := (HB.out.cell (World.block_lt_of_cell? w _ hx112_1)).trans hx112_1; replace hx112_2 := (HB.out.cell (World.block_lt_of_cell? w _ hx112_2)).trans hx112_2; have HR112_1 := Aside0.mk hi112_1; have HC112_1 := Aside0.mk hl112_1; clear hi112_1 hl112_1; have HR112_2 := Aside0.mk hi112_2; have HC112_2 := Aside0.mk hl112_2; clear hi112_2 hl112_2; replace p112 := eq_true p112; replace q112 := eq_true q112) | ((with_reducible refine gate_callee (f := 71) rfl ?_); refine goesL_ (some 31) rfl rfl Try.func71 (by kernel_rfl) rfl #[.slice A2 l2.length c2, .slice A112_2 ((rd_T56 l0_1 t111).f2).length c112_2] rfl (pY35) ?_; (with_reducible refine (spec_l1NamesOk.calls k _ _ l2 _ _ ((rd_T56 l0_1 t111).f2) true _ ?side1 ?side2 ?side3 ?side4 A28.out).mono ?_); (case side1 => exact pC (Kd.C_below HR2.out HB.out)); (case side2 => exact HC2.out); (case side3 => exact pC (Kd.C_below HR112_2.out HB.out)); (case side4 => exact HC112_2.out); rintro e w' ⟨rfl, ⟨nd, rfl⟩⟩; refine ⟨_, rfl, ?_⟩) | ((with_reducible refine gate_dst (N := 34) rfl ?_); refine Kd.R_lit Kd.string _ 9 ?hg (N := 34) ?hd (xs := ([] : List ByteArray)) (inner := []) (ok := fun _ => True) (okp := fun _ => True) ?hr ?hp (fun _ hk => hk) trivial (Below.refl _ _) (Nat.le_refl _) (by simp) ?_; (case hd => rfl); (case hg => rfl); (case hr => (try (obtain ⟨Az_, cz_, ez_⟩ := Kd.R_slice HO128.out; subst ez_)); (try (obtain ⟨Az_, cz_, ez_⟩ := Kd.R_slice HO_10.out; subst ez_)); first | (go_simp; done) | (go_simp; rfl)); (case hp => exact (Reps.none _ _)); intro v115 w46 ho47 hb hg_ hnew_; clear hg_ hnew_; (first | rw [← Ny114.out] at ho47 | (simp only [Int.reduceToNat] at ho47; rw [← Ny114.out] at ho47)); have n0_ := Aside0.mk (Kd.R_elder' (pY45) (Kd.R_base ho47) hb); have n1_ := Aside0.mk (Kd.N_elder' (pY46) (Kd.R_base ho47) hb); have n2_ := Aside0.mk (Kd.R_lower (Kd.R_new' (Kd.R_newM (M := fun k_ => (w.heap.size ≤ k_)) ho47 (below_size (pY24)) (fun k_ h_ => h_)) (Kd.R_lt (pY45))) (below_size (pY24))); have n3_ := Aside0.mk (blk_below (g := gb101) (o := .cells #[.slice A0_0 l0_0.length c0_0, .slice (some ad112) l0_1.length c0_1] 31 (0, 0)) (pY37) hb); have n4_ := Aside0.mk (blk_below (g := gb102) (o := .cells #[.slice none 0 0, .slice none 0 0] 31 (0, 0)) (pY38) hb); have n5_ := Aside0.mk (blk_below (g := gb110) (o := .cells #[.slice Ao38 t104.length co38, .slice Ao42 t107.length co42] 31 (0, 0)) (pY40) hb); have n6_ := Aside0.mk (below_step (pY24) hb); clear HO106; clear HO109; clear BK101; clear BK102; clear BK110; clear HB; have HO106 := n0_; have HO109 := n1_; have HO116 := n2_; have BK101 := n3_; have BK102 := n4_; have BK110 := n5_; have HB := n6_; clear n0_ n1_ n2_ n3_ n4_ n5_ n6_; clear hb ho47))
      go_loopg [10, 11] k (fun kq v10 v11 w' => ∃ (x10_1 : List ByteArray) (x11_1 : Int), v11 = .int .i64 x11_1 ∧ Aside0 (spec_ShareLess.l0 kq l2 t111 x10_1 x11_1 l0_0 l0_1 t104 t107 = some (r1, r2, r3)) ∧ Aside0 (kq ≤ k) ∧ Aside0 (Kd.R Kd.string 9 w' w.heap.size (fun k_ => (w.heap.size ≤ k_) ∧ some k_ ≠ ((.slice Ao38 t104.length co38) : Value).ownBlock) v10 x10_1) ∧ Aside0 (Kd.R Kd.string 9 w' w.heap.size (fun k_ => (w.heap.size ≤ k_) ∧ some k_ ≠ (v10 : Value).ownBlock) (.slice Ao38 t104.length co38) t104) ∧ Aside0 (Kd.N k56 56 w' w.heap.size (fun k_ => (w.heap.size ≤ k_) ∧ some k_ ≠ (v10 : Value).ownBlock ∧ some k_ ≠ ((.slice Ao38 t104.length co38) : Value).ownBlock ∧ k_ ≠ gb101 ∧ k_ ≠ gb102 ∧ k_ ≠ gb110) (.slice Ao42 t107.length co42) t107) ∧ Aside0 (w'.heap[gb101]? = some (.cells #[(.slice A0_0 l0_0.length c0_0), (.slice (some ad112) l0_1.length c0_1)] 31 (0, 0))) ∧ Aside0 (w'.heap[gb102]? = some (.cells #[(.slice none 0 0), (.slice none 0 0)] 31 (0, 0))) ∧ Aside0 (w'.heap[gb110]? = some (.cells #[(.slice Ao38 t104.length co38), (.slice Ao42 t107.length co42)] 31 (0, 0))) ∧ Aside0 (Below w.heap.size w w'))
      case atStart => exact ⟨(y114), (0), (pY51), H', ⟨Nat.le_refl _⟩, ⟨by (with_reducible repeat (first | apply Kd.R_alloc | apply Kd.R_drewN | apply Kd.R_drew)); exact Kd.R_mono HO116.out (fun _ hk => ⟨hk.1.1, hk.2⟩)⟩, ⟨by (with_reducible repeat (first | apply Kd.R_alloc | apply Kd.R_drewN | apply Kd.R_drew)); exact Kd.R_mono HO106.out (fun _ hk => ⟨hk.1.1, hk.2⟩)⟩, ⟨by (with_reducible repeat (first | apply Kd.N_alloc | apply Kd.N_drewN | apply Kd.N_drew)); exact Kd.N_mono HO109.out (fun _ hk => ⟨hk.1.1.1, ⟨hk.2, ⟨hk.1.1.2.1, ⟨hk.1.1.2.2.1, ⟨hk.1.1.2.2.2, hk.1.2⟩⟩⟩⟩⟩)⟩, ⟨by (with_reducible repeat (first | refine blk_drewN ?_ _ | refine blk_drew ?_ | refine blk_alloc ?_ _)); exact BK101.out⟩, ⟨by (with_reducible repeat (first | refine blk_drewN ?_ _ | refine blk_drew ?_ | refine blk_alloc ?_ _)); exact BK102.out⟩, ⟨by (with_reducible repeat (first | refine blk_drewN ?_ _ | refine blk_drew ?_ | refine blk_alloc ?_ _)); exact BK110.out⟩, ⟨pY24⟩⟩
      case round =>
       clear H'
       try clear c1
       try clear p1
       try clear q1
       try clear hx1
       try clear c2
       try clear p2
       try clear c3
       try clear c4
       try clear c5
       try clear c7
       try clear c8
       try clear c8b0
       try clear c11
       try clear p11
       try clear q11
       try clear hx11
       try clear c18
       try clear c19
       try clear c22
       try clear c26
       try clear c26b0
       try clear c27
       try clear c27b0
       try clear c29
       try clear c32
       try clear c39
       try clear c40
       try clear hcz12_0
       try clear hcz12_1
       try clear hcz14_0
       try clear hcz14_1
       try clear hcz20_0
       try clear hcz20_1
       try clear hcz22_0
       try clear hcz22_1
       try clear hcz24_0
       try clear hcz24_1
       try clear hcz25_0
       try clear hcz25_1
       try clear hcz33_0
       try clear hcz33_1
       try clear hcz35_0
       try clear hcz35_1
       try clear hcz41_0
       try clear hcz41_1
       try clear hcz43_0
       try clear hcz43_1
       try clear hcz45_0
       try clear hcz45_1
       try clear hfz12_0
       try clear hfz12_1
       try clear hfz14_0
       try clear hfz14_1
       try clear hfz20_0
       try clear hfz20_1
       try clear hfz22_0
       try clear hfz22_1
       try clear hfz24_0
       try clear hfz24_1
       try clear hfz25_0
       try clear hfz25_1
       try clear hfz33_0
       try clear hfz33_1
       try clear hfz35_0
       try clear hfz35_1
       try clear hfz41_0
       try clear hfz41_1
       try clear hfz43_0
       try clear hfz43_1
       try clear hfz45_0
       try clear hfz45_1
       try clear hx112_0
       try clear hx112_1
       try clear hx112_2
       try clear p112
       try clear q112
       obtain ⟨x10_1, x11_1, rfl, HA, HK1, HO_10, HO_111000, HO_111001, BK101, BK102, BK110, HB⟩ := hrel
       cases gk with
       | zero => exact absurd HA.out (by simp [spec_ShareLess.l0])
       | succ k1 =>
        have H := HA.out
        clear HA
        simp only [spec_ShareLess.l0] at H
        by_cases c48 : 0 ≤ t111
        ·rw [if_pos c48] at H
         have c48b0 : decide (0 ≤ t111) = true := decide_eq_true c48
         clear c48
         by_cases c49 : t111 < (l0_1.length : Int)
         ·rw [if_pos c49] at H
          have c49b0 : decide (t111 < (l0_1.length : Int)) = true := decide_eq_true c49
          clear c49
          by_cases c50 : x11_1 < (((rd_T56 l0_1 t111).f1).length : Int)
          ·rw [if_pos c50] at H
           have c50b0 : decide (x11_1 < (((rd_T56 l0_1 t111).f1).length : Int)) = true := decide_eq_true c50
           clear c50
           by_cases c51 : 0 ≤ x11_1
           ·rw [if_pos c51] at H
            have c51b0 : decide (0 ≤ x11_1) = true := decide_eq_true c51
            clear c51
            replace H := Option.bind_eq_some_iff.mp H
            obtain ⟨t120, A520, H⟩ := H
            replace H : (if t120 = true then (if x10_1.length < 8796093022208 then (spec_ShareLess.l0 k1 l2 t111 (x10_1 ++ [rdOf ByteArray.empty ((rd_T56 l0_1 t111).f1) x11_1]) (wrap64 (x11_1 + 1)) l0_0 l0_1 t104 t107) else (none)) else (spec_ShareLess.l0 k1 l2 t111 x10_1 (wrap64 (x11_1 + 1)) l0_0 l0_1 t104 t107)) = some (r1, r2, r3) := H
            have A52 := Aside0.mk A520
            clear A520
            by_cases c53 : t120 = true
            ·subst c53
             have H1 : (if x10_1.length < 8796093022208 then (spec_ShareLess.l0 k1 l2 t111 (x10_1 ++ [rdOf ByteArray.empty ((rd_T56 l0_1 t111).f1) x11_1]) (wrap64 (x11_1 + 1)) l0_0 l0_1 t104 t107) else (none)) = some (r1, r2, r3) := by rw [if_pos rfl] at H; exact H
             clear H
             have H := H1
             clear H1
             by_cases c54 : x10_1.length < 8796093022208
             ·rw [if_pos c54] at H
              have LMc54 := Aside0.mk c54
              clear c54
              obtain ⟨y123, hy123⟩ : ∃ y_ : List ByteArray, y_ = (x10_1 ++ [rdOf ByteArray.empty ((rd_T56 l0_1 t111).f1) x11_1]) := ⟨_, rfl⟩
              replace H : (spec_ShareLess.l0 k1 l2 t111 y123 (wrap64 (x11_1 + 1)) l0_0 l0_1 t104 t107) = some (r1, r2, r3) := by first | (rw [hy123]; with_reducible exact H) | (have H2_ := (Option.bind_some _ _).symm.trans H; rw [hy123]; with_reducible exact H2_) | (have H2_ := (Option.bind_some _ _).symm.trans H; with_reducible exact H2_) | with_reducible exact H | (rw [hy123]; exact H) | exact H
              have Ny123 := Aside0.mk hy123
              clear hy123
              have H' := Aside0.mk H
              clear H
              have hnb55 := NB101_102.out
              have hnc55 := NB102_101.out
              have hnb56 := NB101_110.out
              have hnc56 := NB110_101.out
              have hcz57_0 : wr.cell? ⟨gb101, 0, none⟩ = some (.slice A0_0 l0_0.length c0_0) := (blk_cell BK101.out 0).trans rfl
              have hcz57_1 : wr.cell? ⟨gb101, 1, none⟩ = some (.slice (some ad112) l0_1.length c0_1) := (blk_cell BK101.out 1).trans rfl
              have hfz57_0 := blk_frozen BK101.out 0
              have hfz57_1 := blk_frozen BK101.out 1
              have p117 : 0 ≤ (t111 : Int) := of_decide_eq_true (pY50)
              have q117 : t111 < (l0_1.length : Int) := of_decide_eq_true (pY50)
              obtain ⟨ad117, A117_1, c117_1, A117_2, c117_2, e117, hx117_0, hx117_1, hx117_2, hl117_1, hi117_1, hl117_2, hi117_2⟩ := at_T56 HR0_1.out t111 p117 q117
              obtain rfl : ad112 = ad117 := (by injection e117)
              replace hx117_0 := (HB.out.cell (World.block_lt_of_cell? w _ hx117_0)).trans hx117_0
              replace hx117_1 := (HB.out.cell (World.block_lt_of_cell? w _ hx117_1)).trans hx117_1
              replace hx117_2 := (HB.out.cell (World.block_lt_of_cell? w _ hx117_2)).trans hx117_2
              have HR117_1 := Aside0.mk hi117_1
              have HC117_1 := Aside0.mk hl117_1
              clear hi117_1 hl117_1
              have HR117_2 := Aside0.mk hi117_2
              have HC117_2 := Aside0.mk hl117_2
              clear hi117_2 hl117_2
              replace p117 := eq_true p117
              replace q117 := eq_true q117
              have p118 : 0 ≤ (t111 : Int) := of_decide_eq_true (pY50)
              have q118 : t111 < (l0_1.length : Int) := of_decide_eq_true (pY50)
              obtain ⟨ad118, A118_1, c118_1, A118_2, c118_2, e118, hx118_0, hx118_1, hx118_2, hl118_1, hi118_1, hl118_2, hi118_2⟩ := at_T56 HR0_1.out t111 p118 q118
              obtain rfl : ad112 = ad118 := (by injection e118)
              replace hx118_0 := (HB.out.cell (World.block_lt_of_cell? w _ hx118_0)).trans hx118_0
              replace hx118_1 := (HB.out.cell (World.block_lt_of_cell? w _ hx118_1)).trans hx118_1
              replace hx118_2 := (HB.out.cell (World.block_lt_of_cell? w _ hx118_2)).trans hx118_2
              have HR118_1 := Aside0.mk hi118_1
              have HC118_1 := Aside0.mk hl118_1
              clear hi118_1 hl118_1
              have HR118_2 := Aside0.mk hi118_2
              have HC118_2 := Aside0.mk hl118_2
              clear hi118_2 hl118_2
              replace p118 := eq_true p118
              replace q118 := eq_true q118
              have ea_ := Option.some.inj (hx117_1.symm.trans hx118_1)
              injection ea_ with ea_ en_ ec_
              subst ea_
              subst ec_
              clear en_
              have ea_ := Option.some.inj (hx117_2.symm.trans hx118_2)
              injection ea_ with ea_ en_ ec_
              subst ea_
              subst ec_
              clear en_
              have p119 : 0 ≤ (x11_1 : Int) := of_decide_eq_true (pY50)
              have q119 : x11_1 < (((rd_T56 l0_1 t111).f1).length : Int) := of_decide_eq_true (pY50)
              obtain ⟨ad119, e119, hx119_0⟩ := Kd.at_string HR118_1.out x11_1 p119 q119
              cases e119
              replace hx119_0 := (HB.out.cell (World.block_lt_of_cell? w _ hx119_0)).trans hx119_0
              replace p119 := eq_true p119
              replace q119 := eq_true q119
              go_wp2_with (first | ((with_reducible refine gate_callee (f := 80) rfl ?_); refine goesL_ (some 56) rfl rfl Try.func80 (by kernel_rfl) rfl #[.slice A2 l2.length c2, .string (rdOf ByteArray.empty ((rd_T56 l0_1 t111).f1) x11_1)] rfl (pY35) ?_; (with_reducible refine (spec_l1Has.calls k1 _ _ l2 (rdOf ByteArray.empty ((rd_T56 l0_1 t111).f1) x11_1) true _ ?side1 ?side2 A52.out).mono ?_); (case side1 => exact pC (Kd.C_below HR2.out HB.out)); (case side2 => exact HC2.out); rintro e w' ⟨rfl, ⟨nd, rfl⟩⟩; refine ⟨_, rfl, ?_⟩; have p121 : 0 ≤ (t111 : Int) := of_decide_eq_true (pY50); have q121 : t111 < (l0_1.length : Int) := of_decide_eq_true (pY50); obtain ⟨ad121, A121_1, c121_1, A121_2, c121_2, e121, hx121_0, hx121_1, hx121_2, hl121_1, hi121_1, hl121_2, hi121_2⟩ := at_T56 HR0_1.out t111 p121 q121; obtain rfl : ad112 = ad121 := (by injection e121); replace hx121_0 := (HB.out.cell (World.block_lt_of_cell? w _ hx121_0)).trans hx121_0; replace hx121_1 := (HB.out.cell (World.block_lt_of_cell? w _ hx121_1)).trans hx121_1; replace hx121_2 := (HB.out.cell (World.block_lt_of_cell? w _ hx121_2)).trans hx121_2; have HR121_1 := Aside0.mk hi121_1; have HC121_1 := Aside0.mk hl121_1; clear hi121_1 hl121_1; have HR121_2 := Aside0.mk hi121_2; have HC121_2 := Aside0.mk hl121_2; clear hi121_2 hl121_2; replace p121 := eq_true p121; replace q121 := eq_true q121; have ea_ := Option.some.inj (hx117_1.symm.trans hx121_1); injection ea_ with ea_ en_ ec_; subst ea_; subst ec_; clear en_; have ea_ := Option.some.inj (hx117_2.symm.trans hx121_2); injection ea_ with ea_ en_ ec_; subst ea_; subst ec_; clear en_; have p122 : 0 ≤ (x11_1 : Int) := of_decide_eq_true (pY50); have q122 : x11_1 < (((rd_T56 l0_1 t111).f1).length : Int) := of_decide_eq_true (pY50); obtain ⟨ad122, e122, hx122_0⟩ := Kd.at_string HR121_1.out x11_1 p122 q122; cases e122; replace hx122_0 := (HB.out.cell (World.block_lt_of_cell? w _ hx122_0)).trans hx122_0; replace p122 := eq_true p122; replace q122 := eq_true q122) | ((with_reducible refine gate_builtin (b := .append) (xs := #[.tmp 57, .tmp 67]) rfl ?_); at_builtin; refine Kd.R_append Kd.string (w0 := w) w.heap.size rfl (.tmp 57) (.tmp 67) 23 9 (.string ⟨#[]⟩) 16 rfl Try.underlying23 info9 rfl (by decide) (by omega) u10 x10_1 (rdOf ByteArray.empty ((rd_T56 l0_1 t111).f1) x11_1) [.string (rdOf ByteArray.empty ((rd_T56 l0_1 t111).f1) x11_1)] (fun k_ => (w.heap.size ≤ k_) ∧ some k_ ≠ (.slice Ao38 t104.length co38 : Value).ownBlock) (fun _ => False) rfl rfl ?aP (fun _ hk => hk.elim) ?aF ?aO ?aB ?aS ?aL ?_; (case aP => exact rfl); (case aB => exact (pY24)); (case aF => exact (fun k_ hk => ⟨(Nat.le_trans (below_size (pY24)) hk), Kd.fresh' (Kd.R_lt (pY44)) k_ hk⟩)); (case aO => exact (by (with_reducible repeat (first | apply Kd.R_alloc | apply Kd.R_drewN | apply Kd.R_drew)); exact HO_10.out)); (case aS => exact (below_size (pY24))); (case aL => have := LMc54.out; omega); intro v124 w58 ho hb hg hat; rw [← Ny123.out] at ho; have n0_ := Aside0.mk (Kd.R_after (ok := (fun k_ => (w.heap.size ≤ k_))) (pY44) hg hat); have n1_ := Aside0.mk (Kd.N_afterv (ok := (fun k_ => (w.heap.size ≤ k_) ∧ some k_ ≠ (.slice Ao38 t104.length co38 : Value).ownBlock ∧ k_ ≠ gb101 ∧ k_ ≠ gb102 ∧ k_ ≠ gb110)) (by (with_reducible repeat (first | apply Kd.N_alloc | apply Kd.N_drewN | apply Kd.N_drew)); exact Kd.N_mono HO_111001.out (fun _ hk => ⟨⟨hk.1, ⟨hk.2.2.1, ⟨hk.2.2.2.1, ⟨hk.2.2.2.2.1, hk.2.2.2.2.2⟩⟩⟩⟩, hk.2.1⟩)) hg hat); have n2_ := Aside0.mk (blk_grown (g := gb101) (o := .cells #[.slice A0_0 l0_0.length c0_0, .slice (some ad112) l0_1.length c0_1] 31 (0, 0)) (pY37) hg (Kd.R_ne HO_10.out BK101.out (by decide))); have n3_ := Aside0.mk (blk_grown (g := gb102) (o := .cells #[.slice none 0 0, .slice none 0 0] 31 (0, 0)) (pY38) hg (Kd.R_ne HO_10.out BK102.out (by decide))); have n4_ := Aside0.mk (blk_grown (g := gb110) (o := .cells #[.slice Ao38 t104.length co38, .slice Ao42 t107.length co42] 31 (0, 0)) (pY40) hg (Kd.R_ne HO_10.out BK110.out (by decide))); have n5_ := Aside0.mk (hb); have n6_ := Aside0.mk (ho); clear HO_111000; clear HO_111001; clear BK101; clear BK102; clear BK110; clear HB; clear HO_10; have HO_111000 := n0_; have HO_111001 := n1_; have BK101 := n2_; have BK102 := n3_; have BK110 := n4_; have HB := n5_; have HO125 := n6_; clear n0_ n1_ n2_ n3_ n4_ n5_ n6_; clear ho hb hg hat))
              go_roundg k1
              case measure => have := HK1.out; omega
              case rel => exact ⟨(y123), (wrap64 (x11_1 + 1)), (pY51), H', ⟨by have := HK1.out; omega⟩, ⟨by (with_reducible repeat (first | apply Kd.R_alloc | apply Kd.R_drewN | apply Kd.R_drew)); exact HO125.out⟩, ⟨by (with_reducible repeat (first | apply Kd.R_alloc | apply Kd.R_drewN | apply Kd.R_drew)); exact HO_111000.out⟩, ⟨by (with_reducible repeat (first | apply Kd.N_alloc | apply Kd.N_drewN | apply Kd.N_drew)); exact Kd.N_mono HO_111001.out (fun _ hk => ⟨hk.1.1, ⟨hk.2, ⟨hk.1.2.1, ⟨hk.1.2.2.1, ⟨hk.1.2.2.2.1, hk.1.2.2.2.2⟩⟩⟩⟩⟩)⟩, ⟨by (with_reducible repeat (first | refine blk_drewN ?_ _ | refine blk_drew ?_ | refine blk_alloc ?_ _)); exact BK101.out⟩, ⟨by (with_reducible repeat (first | refine blk_drewN ?_ _ | refine blk_drew ?_ | refine blk_alloc ?_ _)); exact BK102.out⟩, ⟨by (with_reducible repeat (first | refine blk_drewN ?_ _ | refine blk_drew ?_ | refine blk_alloc ?_ _)); exact BK110.out⟩, ⟨pY24⟩⟩
             ·rw [if_neg c54] at H
              exact absurd H (by simp)
            ·replace c53 := Bool.eq_false_iff.mpr c53
             subst c53
             have H1 : (spec_ShareLess.l0 k1 l2 t111 x10_1 (wrap64 (x11_1 + 1)) l0_0 l0_1 t104 t107) = some (r1, r2, r3) := by rw [if_neg (show ¬ (false = true) by decide)] at H; exact H
             clear H
             have H := H1
             clear H1
             have H' := Aside0.mk H
             clear H
             have hnb59 := NB101_102.out
             have hnc59 := NB102_101.out
             have hnb60 := NB101_110.out
             have hnc60 := NB110_101.out
             have hcz61_0 : wr.cell? ⟨gb101, 0, none⟩ = some (.slice A0_0 l0_0.length c0_0) := (blk_cell BK101.out 0).trans rfl
             have hcz61_1 : wr.cell? ⟨gb101, 1, none⟩ = some (.slice (some ad112) l0_1.length c0_1) := (blk_cell BK101.out 1).trans rfl
             have hfz61_0 := blk_frozen BK101.out 0
             have hfz61_1 := blk_frozen BK101.out 1
             have p117 : 0 ≤ (t111 : Int) := of_decide_eq_true (pY50)
             have q117 : t111 < (l0_1.length : Int) := of_decide_eq_true (pY50)
             obtain ⟨ad117, A117_1, c117_1, A117_2, c117_2, e117, hx117_0, hx117_1, hx117_2, hl117_1, hi117_1, hl117_2, hi117_2⟩ := at_T56 HR0_1.out t111 p117 q117
             obtain rfl : ad112 = ad117 := (by injection e117)
             replace hx117_0 := (HB.out.cell (World.block_lt_of_cell? w _ hx117_0)).trans hx117_0
             replace hx117_1 := (HB.out.cell (World.block_lt_of_cell? w _ hx117_1)).trans hx117_1
             replace hx117_2 := (HB.out.cell (World.block_lt_of_cell? w _ hx117_2)).trans hx117_2
             have HR117_1 := Aside0.mk hi117_1
             have HC117_1 := Aside0.mk hl117_1
             clear hi117_1 hl117_1
             have HR117_2 := Aside0.mk hi117_2
             have HC117_2 := Aside0.mk hl117_2
             clear hi117_2 hl117_2
             replace p117 := eq_true p117
             replace q117 := eq_true q117
             have p118 : 0 ≤ (t111 : Int) := of_decide_eq_true (pY50)
             have q118 : t111 < (l0_1.length : Int) := of_decide_eq_true (pY50)
             obtain ⟨ad118, A118_1, c118_1, A118_2, c118_2, e118, hx118_0, hx118_1, hx118_2, hl118_1, hi118_1, hl118_2, hi118_2⟩ := at_T56 HR0_1.out t111 p118 q118
             obtain rfl : ad112 = ad118 := (by injection e118)
             replace hx118_0 := (HB.out.cell (World.block_lt_of_cell? w _ hx118_0)).trans hx118_0
             replace hx118_1 := (HB.out.cell (World.block_lt_of_cell? w _ hx118_1)).trans hx118_1
             replace hx118_2 := (HB.out.cell (World.block_lt_of_cell? w _ hx118_2)).trans hx118_2
             have HR118_1 := Aside0.mk hi118_1
             have HC118_1 := Aside0.mk hl118_1
             clear hi118_1 hl118_1
             have HR118_2 := Aside0.mk hi118_2
             have HC118_2 := Aside0.mk hl118_2
             clear hi118_2 hl118_2
             replace p118 := eq_true p118
             replace q118 := eq_true q118
             have ea_ := Option.some.inj (hx117_1.symm.trans hx118_1)
             injection ea_ with ea_ en_ ec_
             subst ea_
             subst ec_
             clear en_
             have ea_ := Option.some.inj (hx117_2.symm.trans hx118_2)
             injection ea_ with ea_ en_ ec_
             subst ea_
             subst ec_
             clear en_
             have p119 : 0 ≤ (x11_1 : Int) := of_decide_eq_true (pY50)
             have q119 : x11_1 < (((rd_T56 l0_1 t111).f1).length : Int) := of_decide_eq_true (pY50)
             obtain ⟨ad119, e119, hx119_0⟩ := Kd.at_string HR118_1.out x11_1 p119 q119
             cases e119
             replace hx119_0 := (HB.out.cell (World.block_lt_of_cell? w _ hx119_0)).trans hx119_0
             replace p119 := eq_true p119
             replace q119 := eq_true q119
             go_wp2_with (first | ((with_reducible refine gate_callee (f := 80) rfl ?_); refine goesL_ (some 56) rfl rfl Try.func80 (by kernel_rfl) rfl #[.slice A2 l2.length c2, .string (rdOf ByteArray.empty ((rd_T56 l0_1 t111).f1) x11_1)] rfl (pY35) ?_; (with_reducible refine (spec_l1Has.calls k1 _ _ l2 (rdOf ByteArray.empty ((rd_T56 l0_1 t111).f1) x11_1) false _ ?side1 ?side2 A52.out).mono ?_); (case side1 => exact pC (Kd.C_below HR2.out HB.out)); (case side2 => exact HC2.out); rintro e w' ⟨rfl, ⟨nd, rfl⟩⟩; refine ⟨_, rfl, ?_⟩))
             go_roundg k1
             case measure => have := HK1.out; omega
             case rel => exact ⟨(x10_1), (wrap64 (x11_1 + 1)), (pY51), H', ⟨by have := HK1.out; omega⟩, ⟨by (with_reducible repeat (first | apply Kd.R_alloc | apply Kd.R_drewN | apply Kd.R_drew)); exact HO_10.out⟩, ⟨by (with_reducible repeat (first | apply Kd.R_alloc | apply Kd.R_drewN | apply Kd.R_drew)); exact HO_111000.out⟩, ⟨by (with_reducible repeat (first | apply Kd.N_alloc | apply Kd.N_drewN | apply Kd.N_drew)); exact HO_111001.out⟩, ⟨by (with_reducible repeat (first | refine blk_drewN ?_ _ | refine blk_drew ?_ | refine blk_alloc ?_ _)); exact BK101.out⟩, ⟨by (with_reducible repeat (first | refine blk_drewN ?_ _ | refine blk_drew ?_ | refine blk_alloc ?_ _)); exact BK102.out⟩, ⟨by (with_reducible repeat (first | refine blk_drewN ?_ _ | refine blk_drew ?_ | refine blk_alloc ?_ _)); exact BK110.out⟩, ⟨pY24⟩⟩
           ·rw [if_neg c51] at H
            exact absurd H (by simp)
          ·rw [if_neg c50] at H
           have c50b0 : decide (x11_1 < (((rd_T56 l0_1 t111).f1).length : Int)) = false := decide_eq_false c50
           clear c50
           replace H := Option.bind_eq_some_iff.mp H
           obtain ⟨t126, A620, H⟩ := H
           replace H : (if t111 < (t107.length : Int) then ((some (t107.set (t111 : Int).toNat (⟨(rd_T56 t107 t111).f0, (rd_T56 t107 t111).f1, t126⟩ : S56) : List (S56))).bind fun y129 => ((spec_l1Copy.f k1 t104 (y129.set (t111 : Int).toNat (⟨(rd_T56 y129 t111).f0, x10_1, (rd_T56 y129 t111).f2⟩ : S56))).bind fun bt131 => (some (bt131.1, bt131.2, 0)))) else (none)) = some (r1, r2, r3) := H
           have A62 := Aside0.mk A620
           clear A620
           by_cases c63 : t111 < (t107.length : Int)
           ·rw [if_pos c63] at H
            have c63b0 : decide (t111 < (t107.length : Int)) = true := decide_eq_true c63
            clear c63
            obtain ⟨y129, hy129⟩ : ∃ y_ : List (S56), y_ = (t107.set (t111 : Int).toNat (⟨(rd_T56 t107 t111).f0, (rd_T56 t107 t111).f1, t126⟩ : S56)) := ⟨_, rfl⟩
            replace H : ((spec_l1Copy.f k1 t104 (y129.set (t111 : Int).toNat (⟨(rd_T56 y129 t111).f0, x10_1, (rd_T56 y129 t111).f2⟩ : S56))).bind fun bt131 => (some (bt131.1, bt131.2, 0))) = some (r1, r2, r3) := by first | (rw [hy129]; with_reducible exact H) | (have H2_ := (Option.bind_some _ _).symm.trans H; rw [hy129]; with_reducible exact H2_) | (have H2_ := (Option.bind_some _ _).symm.trans H; with_reducible exact H2_) | with_reducible exact H | (rw [hy129]; exact H) | exact H
            have Ny129 := Aside0.mk hy129
            clear hy129
            obtain ⟨y130, hy130⟩ : ∃ y_ : List (S56), y_ = (y129.set (t111 : Int).toNat (⟨(rd_T56 y129 t111).f0, x10_1, (rd_T56 y129 t111).f2⟩ : S56)) := ⟨_, rfl⟩
            replace H : ((spec_l1Copy.f k1 t104 y130).bind fun bt131 => (some (bt131.1, bt131.2, 0))) = some (r1, r2, r3) := by first | (rw [hy130]; with_reducible exact H) | (have H2_ := (Option.bind_some _ _).symm.trans H; rw [hy130]; with_reducible exact H2_) | (have H2_ := (Option.bind_some _ _).symm.trans H; with_reducible exact H2_) | with_reducible exact H | (rw [hy130]; exact H) | exact H
            have Ny130 := Aside0.mk hy130
            clear hy130
            replace H := Option.bind_eq_some_iff.mp H
            obtain ⟨⟨t131, t134⟩, A660, H⟩ := H
            replace H : (some (t131, t134, 0)) = some (r1, r2, r3) := H
            have A66 := Aside0.mk A660
            clear A660
            simp only [Option.some.injEq, Prod.mk.injEq] at H
            obtain ⟨rfl, rfl, rfl⟩ := H
            have hnb67 := NB101_102.out
            have hnc67 := NB102_101.out
            have hnb68 := NB101_110.out
            have hnc68 := NB110_101.out
            have hcz69_0 : wr.cell? ⟨gb101, 0, none⟩ = some (.slice A0_0 l0_0.length c0_0) := (blk_cell BK101.out 0).trans rfl
            have hcz69_1 : wr.cell? ⟨gb101, 1, none⟩ = some (.slice (some ad112) l0_1.length c0_1) := (blk_cell BK101.out 1).trans rfl
            have hfz69_0 := blk_frozen BK101.out 0
            have hfz69_1 := blk_frozen BK101.out 1
            have p117 : 0 ≤ (t111 : Int) := of_decide_eq_true (pY50)
            have q117 : t111 < (l0_1.length : Int) := of_decide_eq_true (pY50)
            obtain ⟨ad117, A117_1, c117_1, A117_2, c117_2, e117, hx117_0, hx117_1, hx117_2, hl117_1, hi117_1, hl117_2, hi117_2⟩ := at_T56 HR0_1.out t111 p117 q117
            obtain rfl : ad112 = ad117 := (by injection e117)
            replace hx117_0 := (HB.out.cell (World.block_lt_of_cell? w _ hx117_0)).trans hx117_0
            replace hx117_1 := (HB.out.cell (World.block_lt_of_cell? w _ hx117_1)).trans hx117_1
            replace hx117_2 := (HB.out.cell (World.block_lt_of_cell? w _ hx117_2)).trans hx117_2
            have HR117_1 := Aside0.mk hi117_1
            have HC117_1 := Aside0.mk hl117_1
            clear hi117_1 hl117_1
            have HR117_2 := Aside0.mk hi117_2
            have HC117_2 := Aside0.mk hl117_2
            clear hi117_2 hl117_2
            replace p117 := eq_true p117
            replace q117 := eq_true q117
            try go_wp2
            have n0_ := Aside0.mk (Kd.R_drew HO_10.out)
            have n1_ := Aside0.mk (Kd.R_drew HO_111000.out)
            have n2_ := Aside0.mk (Kd.N_drew HO_111001.out)
            have n3_ := Aside0.mk (blk_drew BK101.out)
            have n4_ := Aside0.mk (blk_drew BK102.out)
            have n5_ := Aside0.mk (blk_drew BK110.out)
            have n6_ := Aside0.mk (below_drew1 HB.out)
            clear HO_10
            clear HO_111000
            clear HO_111001
            clear BK101
            clear BK102
            clear BK110
            clear HB
            have HO_10 := n0_
            have HO_111000 := n1_
            have HO_111001 := n2_
            have BK101 := n3_
            have BK102 := n4_
            have BK110 := n5_
            have HB := n6_
            clear n0_ n1_ n2_ n3_ n4_ n5_ n6_
            refine start_ (n := 8) (S := fun w' => w'.cell? ⟨gb110, 0, none⟩ = some (.slice Ao38 t104.length co38) ∧ w'.cell? ⟨gb110, 1, none⟩ = some (.slice Ao42 t107.length co42)) (ds := [7]) #[ff,ff,ff,ff,ff,ff,ff,ff] (by kernel_rfl) rfl rfl ⟨(blk_cell BK110.out 0).trans rfl, (blk_cell BK110.out 1).trans rfl⟩ (fun hHeld => ?_); refine with_tabW spec_ShareLess.tab15 spec_ShareLess.bits15 (fun HT_ HW_ => ?_)
            generalize wr.drew = w70 at HO_10 HO_111000 HO_111001 BK101 BK102 BK110 HB hHeld ⊢
            refine pU (i := 0) (N := some 69) #[tt,ff,ff,ff,ff,ff,ff,ff] ?_
            refine pU (i := 2) (N := some 71) #[tt,ff,tt,ff,ff,ff,ff,ff] ?_
            refine pU (i := 3) (N := some 72) #[tt,ff,tt,tt,ff,ff,ff,ff] ?_
            refine tK2 (i := 1) (N := some 70) #[tt,tt,tt,tt,ff,ff,ff,ff] ?_
            refine one_ (i := 4) (N := some 73) #[tt,tt,tt,tt,tt,ff,ff,ff] rfl rfl (one_of HT_.out (by kernel_rfl)) (by decide) (fun K hK => ?_)
            refine goes_ Try.func93 (by kernel_rfl) rfl #[.slice A2 l2.length c2] (by rfl) rfl rfl (pY35) ?_
            with_reducible refine (spec_l1Names.calls _ _ l2 t126 _ ?side1 ?side2 A62.out).mono ?_
            (case side1 => exact pC (Kd.C_below HR2.out HB.out))
            (case side2 => exact HC2.out)
            rintro e w71 ⟨v127, rfl, ho0, hb⟩
            refine ⟨_, rfl, ?_⟩
            have n0_ := Aside0.mk (Kd.R_elder' (by (with_reducible repeat (first | apply Kd.R_alloc | apply Kd.R_drewN | apply Kd.R_drew)); exact HO_10.out) (Kd.R_base ho0) hb)
            have n1_ := Aside0.mk (Kd.R_elder' (pY44) (Kd.R_base ho0) hb)
            have n2_ := Aside0.mk (Kd.N_elder' (by (with_reducible repeat (first | apply Kd.N_alloc | apply Kd.N_drewN | apply Kd.N_drew)); exact HO_111001.out) (Kd.R_base ho0) hb)
            have n3_ := Aside0.mk (Kd.R_lower (Kd.R_new' (Kd.R_new' (Kd.R_newM (M := fun k_ => (w.heap.size ≤ k_)) ho0 (below_size (pY24)) (fun k_ h_ => h_)) (Kd.R_lt (by (with_reducible repeat (first | apply Kd.R_alloc | apply Kd.R_drewN | apply Kd.R_drew)); exact HO_10.out))) (Kd.R_lt (pY44))) (below_size (pY24)))
            have n4_ := Aside0.mk (blk_below (g := gb101) (o := .cells #[.slice A0_0 l0_0.length c0_0, .slice (some ad112) l0_1.length c0_1] 31 (0, 0)) (pY37) hb)
            have n5_ := Aside0.mk (blk_below (g := gb102) (o := .cells #[.slice none 0 0, .slice none 0 0] 31 (0, 0)) (pY38) hb)
            have n6_ := Aside0.mk (blk_below (g := gb110) (o := .cells #[.slice Ao38 t104.length co38, .slice Ao42 t107.length co42] 31 (0, 0)) (pY40) hb)
            have n7_ := Aside0.mk (below_step (pY24) hb)
            clear HO_10
            clear HO_111000
            clear HO_111001
            clear BK101
            clear BK102
            clear BK110
            clear HB
            have HO_10 := n0_
            have HO_111000 := n1_
            have HO_111001 := n2_
            have HO128 := n3_
            have BK101 := n4_
            have BK102 := n5_
            have BK110 := n6_
            have HB := n7_
            clear n0_ n1_ n2_ n3_ n4_ n5_ n6_ n7_
            (try clear hb)
            (try clear hb2)
            (try clear hk)
            (try clear hi)
            (try clear ho0)
            have p64 : 0 ≤ (t111 : Int) := of_decide_eq_true (pY50)
            have q64 : (t111 : Int) < ((t107.length : Int) : Int) := of_decide_eq_true (pY50)
            obtain ⟨go64, co64, eo64, gb64, gl64, cl64, HG64⟩ := Kd.N_form HO_111001.out (by omega)
            (first | cases eo64 | (injection eo64 with ea_ en_ ec_; (first | subst ea_ | (injection ea_ with ea_; subst ea_)); subst ec_; clear en_))
            have GB64 := Aside0.mk gb64
            have GG64 := Aside0.mk HG64
            clear gb64 gl64 HG64
            obtain ⟨ce64, hcl64, hM64, hcc64, hfr64⟩ := Kd.N_elem HO_111001.out z56 (t111 : Int) p64 q64
            obtain ⟨ua64_1, uc64_1, ua64_2, uc64_2, rfl, ul64_1, ge64_1, ul64_2, ge64_2⟩ := k56_openF hM64
            have hx64_0 : World.cell? _ ⟨go64, (t111 : Int).toNat * 3, none⟩ = some (.string ((rd_T56 t107 t111).f0)) := hcc64 0 _ rfl
            have hx64_1 : World.cell? _ ⟨go64, (t111 : Int).toNat * 3 + 1, none⟩ = some (.slice ua64_1 ((rd_T56 t107 t111).f1).length uc64_1) := hcc64 1 _ rfl
            have hx64_2 : World.cell? _ ⟨go64, (t111 : Int).toNat * 3 + 2, none⟩ = some (.slice ua64_2 ((rd_T56 t107 t111).f2).length uc64_2) := hcc64 2 _ rfl
            have hf64_0 : World.frozen? _ ⟨go64, (t111 : Int).toNat * 3, none⟩ = false := hfr64 0
            have hf64_1 : World.frozen? _ ⟨go64, (t111 : Int).toNat * 3 + 1, none⟩ = false := hfr64 1
            have hf64_2 : World.frozen? _ ⟨go64, (t111 : Int).toNat * 3 + 2, none⟩ = false := hfr64 2
            clear hcl64 hcc64 hfr64 hM64
            replace p64 := eq_true p64
            replace q64 := eq_true q64
            have HX72 := Aside0.mk (show Kd.N k56 56 _ w.heap.size (fun k_ => (w.heap.size ≤ k_) ∧ some k_ ≠ (u10 : Value).ownBlock ∧ some k_ ≠ (.slice Ao38 t104.length co38 : Value).ownBlock ∧ some k_ ≠ (v127 : Value).ownBlock ∧ k_ ≠ gb101 ∧ k_ ≠ gb102 ∧ k_ ≠ gb110) (.slice (some ⟨go64, 0, none⟩) t107.length co42) t107 from (Kd.N_mono (HO_111001.out) (fun k_ hk => ⟨hk.1.1, ⟨hk.1.2.1, ⟨hk.1.2.2.1, ⟨hk.2, ⟨hk.1.2.2.2.1, ⟨hk.1.2.2.2.2.1, hk.1.2.2.2.2.2⟩⟩⟩⟩⟩⟩)))
            replace HX72 := Aside0.mk (show Kd.N k56 56 _ w.heap.size (fun k_ => (w.heap.size ≤ k_) ∧ some k_ ≠ (u10 : Value).ownBlock ∧ some k_ ≠ (.slice Ao38 t104.length co38 : Value).ownBlock ∧ k_ ≠ gb101 ∧ k_ ≠ gb102 ∧ k_ ≠ gb110) (.slice (some ⟨go64, 0, none⟩) t107.length co42) t107 from Kd.N_mono HX72.out (fun k_ hk => ⟨hk.1, ⟨hk.2.1, ⟨hk.2.2.1, ⟨hk.2.2.2.2.1, ⟨hk.2.2.2.2.2.1, hk.2.2.2.2.2.2⟩⟩⟩⟩⟩))
            obtain ⟨ce72, hcl72, hM72, hcc72, hfr72⟩ := Kd.N_elem HX72.out z56 (t111 : Int) (of_decide_eq_true (pY50)) (by have h_ : (t111 : Int) < ((t107.length : Int) : Int) := of_decide_eq_true (pY50); first | exact h_ | (have e_ := (Kd.N_reads' HO_111001.out).1; omega) | simpa using h_)
            obtain ⟨ua72_1, uc72_1, ua72_2, uc72_2, rfl, ul72_1, ge72_1, ul72_2, ge72_2⟩ := k56_openF hM72
            have HP72 := (Kd.N_seg HX72.out (t111 : Int) (of_decide_eq_true (pY50)) (by have h_ : (t111 : Int) < ((t107.length : Int) : Int) := of_decide_eq_true (pY50); first | exact h_ | (have e_ := (Kd.N_reads' HO_111001.out).1; omega) | simpa using h_) (seg := [v127]) (j := 2) hcl72 hcc72 (show 3 ≤ 3 from by decide) (x' := (⟨(rd_T56 t107 t111).f0, (rd_T56 t107 t111).f1, t126⟩ : S56)) (k56_mkF2 _ _ (⟨(rd_T56 t107 t111).f0, (rd_T56 t107 t111).f1, t126⟩ : S56) ul72_1 ge72_1 (Kd.R_mono (ok' := (fun k_ => ((fun k_ => (w.heap.size ≤ k_) ∧ some k_ ≠ (u10 : Value).ownBlock ∧ some k_ ≠ (.slice Ao38 t104.length co38 : Value).ownBlock ∧ k_ ≠ gb101 ∧ k_ ≠ gb102 ∧ k_ ≠ gb110)) k_ ∧ k_ ≠ go64)) (Kd.R_types (Kd.R_types (Kd.R_types (Kd.R_apart' (HO128.out) (Kd.N_typed HO_111001.out) (by decide)) BK101.out (by decide)) BK102.out (by decide)) BK110.out (by decide)) (fun k_ hk => ⟨⟨hk.1.1.1.1.1.1.1, ⟨hk.1.1.1.1.1.2, ⟨hk.1.1.1.1.2, ⟨hk.1.1.2, ⟨hk.1.2, hk.2⟩⟩⟩⟩⟩, fun e_ => (hk.1.1.1.2) (by rw [e_]; rfl)⟩))) (fun _ hk => hk)).1
            rw [← Ny129.out] at HP72
            have HQ72 := Aside0.mk HP72
            clear hcl72 hcc72 hfr72 hM72 HP72
            refine hK.out _ _ ⟨(blk_cell BK110.out 0).trans rfl, (blk_cell BK110.out 1).trans rfl⟩ (fun hHeld => ?_)
            clear hK K
            refine norm_ (a' := ?_) ?_ ?_
            rotate_left
            ·show Act.put _ (some 73) _ = _
             simp only [pW]
             rfl
            refine pU (i := 5) (N := some 74) #[tt,tt,tt,tt,tt,tt,ff,ff] ?_
            refine pU (i := 6) (N := some 75) #[tt,tt,tt,tt,tt,tt,tt,ff] ?_
            refine last_ (i := 7) (N := none) #[tt,tt,tt,tt,tt,tt,tt,tt] rfl rfl (one_of HT_.out (by kernel_rfl)) (by decide) (fun K hK => ?_)
            refine skip_ (w1 := (w71.setCell ⟨go64, (t111 : Int).toNat * 3 + 2, none⟩ (v127))) (by rfl) rfl ?_ ?_
            skip
            ·obtain ⟨Az_, cz_, ez_⟩ := Kd.R_slice HO128.out
             subst ez_
             go_simp
             (try rfl)
            refine hK.out _ _ ?_
            clear hK K
            refine done_ (done_of HT_.out (by kernel_rfl)) ?_
            have n0_ : Aside0 (Kd.R Kd.string 9 (w71.setCell ⟨go64, (t111 : Int).toNat * 3 + 2, none⟩ (v127)) w.heap.size (fun k_ => (w.heap.size ≤ k_) ∧ some k_ ≠ (.slice Ao38 t104.length co38 : Value).ownBlock) u10 x10_1) := ⟨by (with_reducible repeat (first | apply Kd.R_alloc | apply Kd.R_drewN | apply Kd.R_drew)); exact Kd.R_mono (Kd.R_far (p := ⟨go64, (t111 : Int).toNat * 3 + 2, none⟩) (Kd.R_types HO_10.out GG64.out (by decide)) (fun _ hk => hk.2) (v127)) (fun _ hk => ⟨hk.1.1.1, hk.1.1.2⟩)⟩
            have n1_ : Aside0 (Kd.R Kd.string 9 (w71.setCell ⟨go64, (t111 : Int).toNat * 3 + 2, none⟩ (v127)) w.heap.size (fun k_ => (w.heap.size ≤ k_) ∧ some k_ ≠ (u10 : Value).ownBlock) (.slice Ao38 t104.length co38) t104) := ⟨by (with_reducible repeat (first | apply Kd.R_alloc | apply Kd.R_drewN | apply Kd.R_drew)); exact Kd.R_mono (Kd.R_far (p := ⟨go64, (t111 : Int).toNat * 3 + 2, none⟩) (Kd.R_types HO_111000.out GG64.out (by decide)) (fun _ hk => hk.2) (v127)) (fun _ hk => ⟨hk.1.1.1, hk.1.1.2⟩)⟩
            have n2_ : Aside0 (Kd.N k56 56 (w71.setCell ⟨go64, (t111 : Int).toNat * 3 + 2, none⟩ (v127)) w.heap.size (fun k_ => (w.heap.size ≤ k_) ∧ some k_ ≠ (u10 : Value).ownBlock ∧ some k_ ≠ (.slice Ao38 t104.length co38 : Value).ownBlock ∧ k_ ≠ gb101 ∧ k_ ≠ gb102 ∧ k_ ≠ gb110) (.slice (some ⟨go64, 0, none⟩) t107.length co42) y129) := ⟨by (with_reducible repeat (first | apply Kd.N_alloc | apply Kd.N_drewN | apply Kd.N_drew)); exact HQ72.out⟩
            have n3_ : Aside0 ((w71.setCell ⟨go64, (t111 : Int).toNat * 3 + 2, none⟩ (v127)).heap[gb101]? = some (.cells #[.slice A0_0 l0_0.length c0_0, .slice (some ad112) l0_1.length c0_1] 31 (0, 0))) := ⟨by (with_reducible repeat (first | refine blk_drewN ?_ _ | refine blk_drew ?_ | refine blk_alloc ?_ _)); refine blk_far ?_ (by have h_ := Kd.N_away HO_111001.out (fun _ hk => by first | exact hk.2.2.2.1 | exact hk.1.2.2.2.1); intro e_; exact h_ (by rw [e_]; rfl)) _; (with_reducible repeat (first | refine blk_drewN ?_ _ | refine blk_drew ?_ | refine blk_alloc ?_ _)); exact BK101.out⟩
            have n4_ : Aside0 ((w71.setCell ⟨go64, (t111 : Int).toNat * 3 + 2, none⟩ (v127)).heap[gb102]? = some (.cells #[.slice none 0 0, .slice none 0 0] 31 (0, 0))) := ⟨by (with_reducible repeat (first | refine blk_drewN ?_ _ | refine blk_drew ?_ | refine blk_alloc ?_ _)); refine blk_far ?_ (by have h_ := Kd.N_away HO_111001.out (fun _ hk => by first | exact hk.2.2.2.2.1 | exact hk.1.2.2.2.2.1); intro e_; exact h_ (by rw [e_]; rfl)) _; (with_reducible repeat (first | refine blk_drewN ?_ _ | refine blk_drew ?_ | refine blk_alloc ?_ _)); exact BK102.out⟩
            have n5_ : Aside0 ((w71.setCell ⟨go64, (t111 : Int).toNat * 3 + 2, none⟩ (v127)).heap[gb110]? = some (.cells #[.slice Ao38 t104.length co38, .slice (some ⟨go64, 0, none⟩) t107.length co42] 31 (0, 0))) := ⟨by (with_reducible repeat (first | refine blk_drewN ?_ _ | refine blk_drew ?_ | refine blk_alloc ?_ _)); refine blk_far ?_ (by have h_ := Kd.N_away HO_111001.out (fun _ hk => by first | exact hk.2.2.2.2.2 | exact hk.1.2.2.2.2.2); intro e_; exact h_ (by rw [e_]; rfl)) _; (with_reducible repeat (first | refine blk_drewN ?_ _ | refine blk_drew ?_ | refine blk_alloc ?_ _)); exact BK110.out⟩
            have n6_ : Aside0 (Below w.heap.size w (w71.setCell ⟨go64, (t111 : Int).toNat * 3 + 2, none⟩ (v127))) := ⟨by repeat (first | (with_reducible first | exact HB.out | apply below_alloc | apply pw_below_drewN | apply below_drew1 | refine below_set ?_ GB64.out | refine below_set ?_ GE101.out | refine below_set ?_ GE102.out | refine below_set ?_ GE110.out) | exact HB.out)⟩
            (try clear HO_10)
            (try clear HO_111000)
            (try clear HO_111001)
            (try clear BK101)
            (try clear BK102)
            (try clear BK110)
            (try clear HB)
            generalize (w71.setCell ⟨go64, (t111 : Int).toNat * 3 + 2, none⟩ (v127)) = w73 at n0_ n1_ n2_ n3_ n4_ n5_ n6_ ⊢
            have HO_10 := n0_
            have HO_111000 := n1_
            have HO_111001 := n2_
            have BK101 := n3_
            have BK102 := n4_
            have BK110 := n5_
            have HB := n6_
            clear n0_ n1_ n2_ n3_ n4_ n5_ n6_
            have hnb74 := NB110_102.out
            have hnc74 := NB102_110.out
            have hcz75_0 : w73.cell? ⟨gb110, 0, none⟩ = some (.slice Ao38 t104.length co38) := (blk_cell BK110.out 0).trans rfl
            have hcz75_1 : w73.cell? ⟨gb110, 1, none⟩ = some (.slice (some ⟨go64, 0, none⟩) t107.length co42) := (blk_cell BK110.out 1).trans rfl
            have hfz75_0 := blk_frozen BK110.out 0
            have hfz75_1 := blk_frozen BK110.out 1
            have p65 : 0 ≤ (t111 : Int) := of_decide_eq_true (pY50)
            have q65 : (t111 : Int) < ((t107.length : Int) : Int) := of_decide_eq_true (pY50)
            replace p65 := eq_true p65
            replace q65 := eq_true q65
            have HX76 := Aside0.mk (show Kd.N k56 56 w73 w.heap.size (fun k_ => (w.heap.size ≤ k_) ∧ some k_ ≠ (.slice Ao38 t104.length co38 : Value).ownBlock ∧ k_ ≠ gb101 ∧ k_ ≠ gb102 ∧ k_ ≠ gb110) (.slice (some ⟨go64, 0, none⟩) t107.length co42) y129 from (by (with_reducible repeat (first | apply Kd.N_alloc | apply Kd.N_drewN | apply Kd.N_drew)); exact Kd.N_mono HO_111001.out (fun _ hk => ⟨hk.1, ⟨hk.2.2.1, ⟨hk.2.2.2.1, ⟨hk.2.2.2.2.1, hk.2.2.2.2.2⟩⟩⟩⟩)))
            obtain ⟨ce76, hcl76, hM76, hcc76, hfr76⟩ := Kd.N_elem HX76.out z56 (t111 : Int) (of_decide_eq_true (pY50)) (by have h_ : (t111 : Int) < ((t107.length : Int) : Int) := of_decide_eq_true (pY50); first | exact h_ | (have e_ := (Kd.N_reads' HO_111001.out).1; omega) | simpa using h_)
            obtain ⟨ua76_1, uc76_1, ua76_2, uc76_2, rfl, ul76_1, ge76_1, ul76_2, ge76_2⟩ := k56_openF hM76
            have HP76 := Kd.N_seg HX76.out (t111 : Int) (of_decide_eq_true (pY50)) (by have h_ : (t111 : Int) < ((t107.length : Int) : Int) := of_decide_eq_true (pY50); first | exact h_ | (have e_ := (Kd.N_reads' HO_111001.out).1; omega) | simpa using h_) (seg := [u10]) (j := 1) hcl76 hcc76 (show 2 ≤ 3 from by decide) (x' := (⟨(rd_T56 y129 t111).f0, x10_1, (rd_T56 y129 t111).f2⟩ : S56)) (k56_mkF1 _ _ (⟨(rd_T56 y129 t111).f0, x10_1, (rd_T56 y129 t111).f2⟩ : S56) (Kd.R_mono (ok' := (fun k_ => ((fun k_ => (w.heap.size ≤ k_) ∧ some k_ ≠ (.slice Ao38 t104.length co38 : Value).ownBlock ∧ k_ ≠ gb101 ∧ k_ ≠ gb102 ∧ k_ ≠ gb110)) k_ ∧ k_ ≠ go64)) (Kd.R_types (Kd.R_types (Kd.R_types (Kd.R_apart' (HO_10.out) (Kd.N_typed HO_111001.out) (by decide)) BK101.out (by decide)) BK102.out (by decide)) BK110.out (by decide)) (fun k_ hk => ⟨⟨hk.1.1.1.1.1, ⟨hk.1.1.1.1.2, ⟨hk.1.1.2, ⟨hk.1.2, hk.2⟩⟩⟩⟩, fun e_ => (hk.1.1.1.2) (by rw [e_]; rfl)⟩)) ul76_2 ge76_2) (fun _ hk => hk)
            have hx76_1 := hcc76 1 _ rfl
            (try simp only [show (k56).sz = 3 from rfl, Nat.mul_one, Nat.add_zero] at hx76_1)
            have hf76_1 := hfr76 1
            (try simp only [show (k56).sz = 3 from rfl, Nat.mul_one, Nat.add_zero] at hf76_1)
            clear hcl76 hcc76 hfr76 hM76
            try go_wp2_with (first | ((with_reducible refine gate_store (t := 23) (p := 81) rfl ?_); refine store_event (t := 23) (p := 81) (v := ?vo_w77) (w1 := (w73.setCell ⟨go64, (t111 : Int).toNat * 3 + 1, none⟩ (u10))) ?hg ?ho ?hn ?hr ?_; (case ho => rfl); (case hg => rfl); (case hn => rfl); (case hr => (try (obtain ⟨Az_, cz_, ez_⟩ := Kd.R_slice HO_10.out; subst ez_)); first | (go_simp; done) | (go_simp; rfl)); intro w77 hw; have hg : w73.grownBy w77 (some go64) := (by rw [hw]; exact HP76.2); have hp_ : Kd.N k56 56 w77 w.heap.size (fun k_ => (w.heap.size ≤ k_) ∧ some k_ ≠ (.slice Ao38 t104.length co38 : Value).ownBlock ∧ k_ ≠ gb101 ∧ k_ ≠ gb102 ∧ k_ ≠ gb110) (.slice (some ⟨go64, 0, none⟩) t107.length co42) y130 := (by rw [hw, Ny130.out]; exact HP76.1); clear HP76; have n0_ := Aside0.mk (Kd.R_over' (v := (.slice (some ⟨go64, 0, none⟩) t107.length co42)) (pY44) (Kd.N_typed HO_111001.out) (by decide) hg); have n1_ := Aside0.mk (hp_); have n2_ := Aside0.mk (blk_grown (g := gb101) (o := .cells #[.slice A0_0 l0_0.length c0_0, .slice (some ad112) l0_1.length c0_1] 31 (0, 0)) (pY37) hg (Kd.N_ne HO_111001.out BK101.out (by decide))); have n3_ := Aside0.mk (blk_grown (g := gb102) (o := .cells #[.slice none 0 0, .slice none 0 0] 31 (0, 0)) (pY38) hg (Kd.N_ne HO_111001.out BK102.out (by decide))); have n4_ := Aside0.mk (blk_grown (g := gb110) (o := .cells #[.slice Ao38 t104.length co38, .slice (some ⟨go64, 0, none⟩) t107.length co42] 31 (0, 0)) (pY40) hg (Kd.N_ne HO_111001.out BK110.out (by decide))); have n5_ := Aside0.mk ((by rw [hw]; exact below_set (HB.out) GB64.out : Below w.heap.size w w77)); clear HO_111000; clear HO_111001; clear BK101; clear BK102; clear BK110; clear HB; clear HO_10; have HO_111000 := n0_; have HO_111001 := n1_; have BK101 := n2_; have BK102 := n3_; have BK110 := n4_; have HB := n5_; clear n0_ n1_ n2_ n3_ n4_ n5_; clear hg hw hp_; have hcz78_0 : w77.cell? ⟨gb110, 0, none⟩ = some (.slice Ao38 t104.length co38) := (blk_cell BK110.out 0).trans rfl; have hcz78_1 : w77.cell? ⟨gb110, 1, none⟩ = some (.slice (some ⟨go64, 0, none⟩) t107.length co42) := (blk_cell BK110.out 1).trans rfl; have hfz78_0 := blk_frozen BK110.out 0; have hfz78_1 := blk_frozen BK110.out 1) | ((with_reducible refine gate_callee (f := 89) rfl ?_); refine goesL_ (some 83) rfl rfl Try.func89 (by kernel_rfl) rfl #[.agg #[.slice Ao38 t104.length co38, .slice (some ⟨go64, 0, none⟩) y130.length co42]] rfl (by (try simp only [List.map_toArray, List.map_cons, List.map_nil]); first | done | (rw [show y130.length = t107.length from (Kd.N_reads' HO_111001.out).1.symm] <;> rfl) | rfl | (simp only [List.length_drop, List.length_take]; rfl)) ?_; (with_reducible refine (spec_l1Copy.calls k1 _ _ t104 _ _ y130 t131 t134 _ ?side1 ?side2 ?side3 ?side4 A66.out).mono ?_); (case side1 => exact pC (Kd.R_reads' HO_111000.out).2.2); (case side2 => exact (Kd.R_reads' HO_111000.out).2.1); (case side3 => exact pC (Kd.N_reads' HO_111001.out).2.2); (case side4 => rw [show y130.length = t107.length from (Kd.N_reads' HO_111001.out).1.symm]; exact (Kd.N_reads' HO_111001.out).2.1); rintro e w79 ⟨v132, v135, rfl, ho0, ho1, hb⟩; refine ⟨_, rfl, ?_⟩; have n0_ := Aside0.mk (Kd.R_elder' (pY44) (Kd.R_base ho0) hb); have n1_ := Aside0.mk (Kd.N_mono (Kd.N_told (Kd.N_told (Kd.N_old (by (with_reducible repeat (first | apply Kd.N_alloc | apply Kd.N_drewN | apply Kd.N_drew)); exact HO_111001.out) hb) (Kd.R_base ho0)) (by first | exact Kd.N_base ho1 | exact Kd.S_base ho1)) (fun _ h_ => h_.1)); have n2_ := Aside0.mk (Kd.R_lower (Kd.R_new' (Kd.R_newM (M := fun k_ => (w.heap.size ≤ k_)) ho0 (below_size (pY24)) (fun k_ h_ => h_)) (Kd.R_lt (pY44))) (below_size (pY24))); have n3_ := Aside0.mk (Kd.N_lower (Kd.N_mono (ok' := fun k_ => (w.heap.size ≤ k_) ∧ some k_ ≠ (v132 : Value).ownBlock ∧ some k_ ≠ (.slice Ao38 t104.length co38 : Value).ownBlock ∧ some k_ ≠ (.slice (some ⟨go64, 0, none⟩) t107.length co42 : Value).ownBlock ∧ k_ ≠ gb101 ∧ k_ ≠ gb102 ∧ k_ ≠ gb110) (Kd.S_N (Kd.S_bound ho1)) (fun k_ hk_ => ⟨(Nat.le_trans (below_size (pY24)) hk_.2.1), hk_.1, (Kd.fresh' (Kd.R_lt (pY44)) k_ hk_.2.1), (Kd.fresh' (Kd.N_lt (by (with_reducible repeat (first | apply Kd.N_alloc | apply Kd.N_drewN | apply Kd.N_drew)); exact HO_111001.out)) k_ hk_.2.1), (Kd.freshB (g := gb101) (o := .cells #[.slice A0_0 l0_0.length c0_0, .slice (some ad112) l0_1.length c0_1] 31 (0, 0)) (pY37) k_ hk_.2.1), (Kd.freshB (g := gb102) (o := .cells #[.slice none 0 0, .slice none 0 0] 31 (0, 0)) (pY38) k_ hk_.2.1), (Kd.freshB (g := gb110) (o := .cells #[.slice Ao38 t104.length co38, .slice (some ⟨go64, 0, none⟩) t107.length co42] 31 (0, 0)) (pY40) k_ hk_.2.1)⟩)) (below_size (pY24))); have n4_ := Aside0.mk (blk_below (g := gb101) (o := .cells #[.slice A0_0 l0_0.length c0_0, .slice (some ad112) l0_1.length c0_1] 31 (0, 0)) (pY37) hb); have n5_ := Aside0.mk (blk_below (g := gb102) (o := .cells #[.slice none 0 0, .slice none 0 0] 31 (0, 0)) (pY38) hb); have n6_ := Aside0.mk (blk_below (g := gb110) (o := .cells #[.slice Ao38 t104.length co38, .slice (some ⟨go64, 0, none⟩) t107.length co42] 31 (0, 0)) (pY40) hb); have n7_ := Aside0.mk (below_step (pY24) hb); clear HO_111000; clear HO_111001; clear BK101; clear BK102; clear BK110; clear HB; have HO_111000 := n0_; have HO_111001 := n1_; have HO133 := n2_; have HO136 := n3_; have BK101 := n4_; have BK102 := n5_; have BK110 := n6_; have HB := n7_; clear n0_ n1_ n2_ n3_ n4_ n5_ n6_ n7_; (try clear hb); (try clear hb2); (try clear hk); (try clear hi); (try clear ho0); (try clear ho1); obtain ⟨Ao80, co80, eo80⟩ := Kd.R_slice HO133.out; subst eo80; have hcz81_0 : w79.cell? ⟨gb102, 0, none⟩ = some (.slice none 0 0) := (blk_cell BK102.out 0).trans rfl; have hcz81_1 : w79.cell? ⟨gb102, 1, none⟩ = some (.slice none 0 0) := (blk_cell BK102.out 1).trans rfl; have hfz81_0 := blk_frozen BK102.out 0; have hfz81_1 := blk_frozen BK102.out 1; obtain ⟨Ao82, co82, eo82⟩ := Kd.N_slice HO136.out; subst eo82))
            refine bodyPost_ret (results_ct rfl _ _ gb102 31 #[.slice Ao80 t131.length co80, .slice Ao82 t134.length co82] (0, 0) _ rfl (by (with_reducible repeat (first | refine blk_drewN ?_ _ | refine blk_drew ?_ | refine blk_alloc ?_ _)); refine blk_put (cs := #[.slice Ao80 t131.length co80, .slice none 0 0]) ?_ 1 _ rfl; (with_reducible repeat (first | refine blk_drewN ?_ _ | refine blk_drew ?_ | refine blk_alloc ?_ _)); refine blk_put (cs := #[.slice none 0 0, .slice none 0 0]) ?_ 0 _ rfl; (with_reducible repeat (first | refine blk_drewN ?_ _ | refine blk_drew ?_ | refine blk_alloc ?_ _)); exact BK102.out) Try.underlying31 rfl (by kernel_rfl)) rfl ?_
            exact ⟨_, _, by first | rfl | (simp [errW_none, errW_some] <;> rfl) | (simp [*, errW_none, errW_some] <;> rfl), by (with_reducible repeat (first | apply Kd.R_alloc | apply Kd.R_drewN | apply Kd.R_drew)); exact Kd.R_mono (Kd.R_far (p := ⟨gb102, 1, none⟩) (Kd.R_far (p := ⟨gb102, 0, none⟩) (Kd.R_types HO133.out BK102.out (by decide)) (fun _ hk => hk.2) (.slice Ao80 t131.length co80)) (fun _ hk => hk.2) (.slice Ao82 t134.length co82)) (fun _ hk => hk.1.1.1), by (with_reducible repeat (first | apply Kd.N_alloc | apply Kd.N_drewN | apply Kd.N_drew)); exact Kd.N_mono (Kd.N_far (p := ⟨gb102, 1, none⟩) (Kd.N_far (p := ⟨gb102, 0, none⟩) (Kd.N_mono HO136.out (fun k_ hk => (⟨hk, hk.2.2.2.2.2.1⟩ : _ ∧ k_ ≠ gb102))) (fun _ hk => hk.2) (.slice Ao80 t131.length co80)) (fun _ hk => hk.2) (.slice Ao82 t134.length co82)) (fun _ hk => ⟨hk.1.1, hk.1.2.1⟩), pY24⟩
           ·rw [if_neg c63] at H
            exact absurd H (by simp)
         ·rw [if_neg c49] at H
          exact absurd H (by simp)
        ·rw [if_neg c48] at H
         exact absurd H (by simp)
     ·replace c29 := Bool.eq_false_iff.mpr c29
      subst c29
      have H1 : (some (t104, t107, 2)) = some (r1, r2, r3) := by rw [if_neg (show ¬ (false = true) by decide)] at H; exact H
      clear H
      have H := H1
      clear H1
      simp only [Option.some.injEq, Prod.mk.injEq] at H
      obtain ⟨rfl, rfl, rfl⟩ := H
      go_enter Try.func49, Try.ntmps49
      go_wp2_with (first | ((with_reducible refine gate_dst (N := 3) rfl ?_); refine box_event ?hg (N := 3) ?hd (cs := #[.slice A0_0 l0_0.length c0_0, .slice A0_1 l0_1.length c0_1]) (t := 31) ?hr ?_; (case hd => rfl); (case hg => rfl); (case hr => (try (obtain ⟨Az_, cz_, ez_⟩ := Kd.R_slice HO128.out; subst ez_)); (try (obtain ⟨Az_, cz_, ez_⟩ := Kd.R_slice HO_10.out; subst ez_)); first | (go_simp; done) | (go_simp; rfl)); intro gb101 hg w83 hbox hb; have n0_ := Aside0.mk (below_step (pY36) hb); have n1_ := Aside0.mk (hbox); have n2_ := Aside0.mk ((pY33 : w.heap.size ≤ gb101)); have n3_ := Aside0.mk ((pY33 : w.heap.size ≤ gb101)); clear HB; have HB := n0_; have BK101 := n1_; have GW101 := n2_; have GE101 := n3_; clear n0_ n1_ n2_ n3_; clear hb hbox hg) | ((with_reducible refine gate_dst (N := 6) rfl ?_); refine box_event ?hg (N := 6) ?hd (cs := #[.slice none 0 0, .slice none 0 0]) (t := 31) ?hr ?_; (case hd => rfl); (case hg => rfl); (case hr => (try (obtain ⟨Az_, cz_, ez_⟩ := Kd.R_slice HO128.out; subst ez_)); (try (obtain ⟨Az_, cz_, ez_⟩ := Kd.R_slice HO_10.out; subst ez_)); first | (go_simp; done) | (go_simp; rfl)); intro gb102 hg w84 hbox hb; have n0_ := Aside0.mk (blk_below (g := gb101) (o := .cells #[.slice A0_0 l0_0.length c0_0, .slice A0_1 l0_1.length c0_1] 31 (0, 0)) (pY37) hb); have n1_ := Aside0.mk (below_step (pY34) hb); have n2_ := Aside0.mk (hbox); have n3_ := Aside0.mk ((pY26 : w.heap.size ≤ gb102)); have n4_ := Aside0.mk ((pY26 : w.heap.size ≤ gb102)); have n5_ := Aside0.mk ((pY16 : gb101 ≠ gb102)); have n6_ := Aside0.mk ((pY17 : gb102 ≠ gb101)); clear BK101; clear HB; have BK101 := n0_; have HB := n1_; have BK102 := n2_; have GW102 := n3_; have GE102 := n4_; have NB101_102 := n5_; have NB102_101 := n6_; clear n0_ n1_ n2_ n3_ n4_ n5_ n6_; clear hb hbox hg; have hnb85 := NB101_102.out; have hnc85 := NB102_101.out; have hcz86_0 : w84.cell? ⟨gb101, 0, none⟩ = some (.slice A0_0 l0_0.length c0_0) := (blk_cell BK101.out 0).trans rfl; have hcz86_1 : w84.cell? ⟨gb101, 1, none⟩ = some (.slice A0_1 l0_1.length c0_1) := (blk_cell BK101.out 1).trans rfl; have hfz86_0 := blk_frozen BK101.out 0; have hfz86_1 := blk_frozen BK101.out 1) | ((with_reducible refine gate_callee (f := 22) rfl ?_); refine goesL_ (some 13) rfl rfl Try.func22 (by kernel_rfl) rfl #[.agg #[.slice A0_0 l0_0.length c0_0, .slice A0_1 l0_1.length c0_1]] rfl (pY35) ?_; (with_reducible refine (spec_ShareBookOk.calls k _ _ l0_0 _ _ l0_1 true _ ?side1 ?side2 ?side3 ?side4 A4.out).mono ?_); (case side1 => exact pC (Kd.C_below HR0_0.out HB.out)); (case side2 => exact HC0_0.out); (case side3 => exact pC (Kd.C_below HR0_1.out HB.out)); (case side4 => exact HC0_1.out); rintro e w87 ⟨rfl, hb⟩; refine ⟨_, rfl, ?_⟩; have n0_ := Aside0.mk (blk_below (g := gb101) (o := .cells #[.slice A0_0 l0_0.length c0_0, .slice A0_1 l0_1.length c0_1] 31 (0, 0)) (pY37) hb); have n1_ := Aside0.mk (blk_below (g := gb102) (o := .cells #[.slice none 0 0, .slice none 0 0] 31 (0, 0)) (pY38) hb); have n2_ := Aside0.mk (below_step (pY27) hb); clear BK101; clear BK102; clear HB; have BK101 := n0_; have BK102 := n1_; have HB := n2_; clear n0_ n1_ n2_; (try clear hb); (try clear hb2); (try clear hk); (try clear hi); have hcz88_0 : w87.cell? ⟨gb101, 0, none⟩ = some (.slice A0_0 l0_0.length c0_0) := (blk_cell BK101.out 0).trans rfl; have hcz88_1 : w87.cell? ⟨gb101, 1, none⟩ = some (.slice A0_1 l0_1.length c0_1) := (blk_cell BK101.out 1).trans rfl; have hfz88_0 := blk_frozen BK101.out 0; have hfz88_1 := blk_frozen BK101.out 1) | ((with_reducible refine gate_callee (f := 89) rfl ?_); refine goesL_ (some 17) rfl rfl Try.func89 (by kernel_rfl) rfl #[.agg #[.slice A0_0 l0_0.length c0_0, .slice A0_1 l0_1.length c0_1]] rfl (pY35) ?_; (with_reducible refine (spec_l1Copy.calls k _ _ l0_0 _ _ l0_1 t104 t107 _ ?side1 ?side2 ?side3 ?side4 A6.out).mono ?_); (case side1 => exact pC (Kd.C_below HR0_0.out HB.out)); (case side2 => exact HC0_0.out); (case side3 => exact pC (Kd.C_below HR0_1.out HB.out)); (case side4 => exact HC0_1.out); rintro e w89 ⟨v105, v108, rfl, ho0, ho1, hb⟩; refine ⟨_, rfl, ?_⟩; have n0_ := Aside0.mk (Kd.R_lower (Kd.R_newM (M := fun k_ => (w.heap.size ≤ k_)) ho0 (below_size (pY27)) (fun k_ h_ => h_)) (below_size (pY27))); have n1_ := Aside0.mk (Kd.N_lower (Kd.N_mono (ok' := fun k_ => (w.heap.size ≤ k_) ∧ some k_ ≠ (v105 : Value).ownBlock ∧ k_ ≠ gb101 ∧ k_ ≠ gb102) (Kd.S_N (Kd.S_bound ho1)) (fun k_ hk_ => ⟨(Nat.le_trans (below_size (pY27)) hk_.2.1), hk_.1, (Kd.freshB (g := gb101) (o := .cells #[.slice A0_0 l0_0.length c0_0, .slice A0_1 l0_1.length c0_1] 31 (0, 0)) (pY37) k_ hk_.2.1), (Kd.freshB (g := gb102) (o := .cells #[.slice none 0 0, .slice none 0 0] 31 (0, 0)) (pY38) k_ hk_.2.1)⟩)) (below_size (pY27))); have n2_ := Aside0.mk (blk_below (g := gb101) (o := .cells #[.slice A0_0 l0_0.length c0_0, .slice A0_1 l0_1.length c0_1] 31 (0, 0)) (pY37) hb); have n3_ := Aside0.mk (blk_below (g := gb102) (o := .cells #[.slice none 0 0, .slice none 0 0] 31 (0, 0)) (pY38) hb); have n4_ := Aside0.mk (below_step (pY27) hb); clear BK101; clear BK102; clear HB; have HO106 := n0_; have HO109 := n1_; have BK101 := n2_; have BK102 := n3_; have HB := n4_; clear n0_ n1_ n2_ n3_ n4_; (try clear hb); (try clear hb2); (try clear hk); (try clear hi); (try clear ho0); (try clear ho1)) | ((with_reducible refine gate_dst (N := 8) rfl ?_); refine box_event ?hg (N := 8) ?hd (cs := #[.slice none 0 0, .slice none 0 0]) (t := 31) ?hr ?_; (case hd => rfl); (case hg => rfl); (case hr => (try (obtain ⟨Az_, cz_, ez_⟩ := Kd.R_slice HO128.out; subst ez_)); (try (obtain ⟨Az_, cz_, ez_⟩ := Kd.R_slice HO_10.out; subst ez_)); first | (go_simp; done) | (go_simp; rfl)); intro gb110 hg w90 hbox hb; have n0_ := Aside0.mk (Kd.R_below (pY45) hb); have n1_ := Aside0.mk (Kd.N_below (Kd.N_elderB (pY46) gb110 (Nat.le_of_eq hg.symm)) hb); have n2_ := Aside0.mk (blk_below (g := gb101) (o := .cells #[.slice A0_0 l0_0.length c0_0, .slice A0_1 l0_1.length c0_1] 31 (0, 0)) (pY37) hb); have n3_ := Aside0.mk (blk_below (g := gb102) (o := .cells #[.slice none 0 0, .slice none 0 0] 31 (0, 0)) (pY38) hb); have n4_ := Aside0.mk (below_step (pY27) hb); have n5_ := Aside0.mk (hbox); have n6_ := Aside0.mk ((pY20 : w.heap.size ≤ gb110)); have n7_ := Aside0.mk ((pY20 : w.heap.size ≤ gb110)); have n8_ := Aside0.mk ((pY16 : gb101 ≠ gb110)); have n9_ := Aside0.mk ((pY17 : gb110 ≠ gb101)); have n10_ := Aside0.mk ((pY18 : gb102 ≠ gb110)); have n11_ := Aside0.mk ((pY19 : gb110 ≠ gb102)); clear HO106; clear HO109; clear BK101; clear BK102; clear HB; have HO106 := n0_; have HO109 := n1_; have BK101 := n2_; have BK102 := n3_; have HB := n4_; have BK110 := n5_; have GW110 := n6_; have GE110 := n7_; have NB101_110 := n8_; have NB110_101 := n9_; have NB102_110 := n10_; have NB110_102 := n11_; clear n0_ n1_ n2_ n3_ n4_ n5_ n6_ n7_ n8_ n9_ n10_ n11_; clear hb hbox hg; obtain ⟨Ao91, co91, eo91⟩ := Kd.R_slice HO106.out; subst eo91; have hnb92 := NB110_101.out; have hnc92 := NB101_110.out; have hnb93 := NB110_102.out; have hnc93 := NB102_110.out; have hcz94_0 : w90.cell? ⟨gb110, 0, none⟩ = some (.slice none 0 0) := (blk_cell BK110.out 0).trans rfl; have hcz94_1 : w90.cell? ⟨gb110, 1, none⟩ = some (.slice none 0 0) := (blk_cell BK110.out 1).trans rfl; have hfz94_0 := blk_frozen BK110.out 0; have hfz94_1 := blk_frozen BK110.out 1; obtain ⟨Ao95, co95, eo95⟩ := Kd.N_slice HO109.out; subst eo95; have hcz96_0 : w90.cell? ⟨gb101, 0, none⟩ = some (.slice A0_0 l0_0.length c0_0) := (blk_cell BK101.out 0).trans rfl; have hcz96_1 : w90.cell? ⟨gb101, 1, none⟩ = some (.slice A0_1 l0_1.length c0_1) := (blk_cell BK101.out 1).trans rfl; have hfz96_0 := blk_frozen BK101.out 0; have hfz96_1 := blk_frozen BK101.out 1) | ((with_reducible refine gate_callee (f := 82) rfl ?_); refine goesL_ (some 20) rfl rfl Try.func82 (by kernel_rfl) rfl #[.agg #[.slice A0_0 l0_0.length c0_0, .slice A0_1 l0_1.length c0_1], .string a1] rfl (pY35) ?_; (with_reducible refine (spec_l1At.calls k _ _ l0_0 _ _ l0_1 a1 t111 _ ?side1 ?side2 ?side3 ?side4 A7.out).mono ?_); (case side1 => exact Kd.C_below HR0_0.out (pY24)); (case side2 => exact HC0_0.out); (case side3 => exact Kd.C_below HR0_1.out (pY24)); (case side4 => exact HC0_1.out); rintro e w97 ⟨rfl, hb⟩; refine ⟨_, rfl, ?_⟩; have n0_ := Aside0.mk (Kd.R_below (by (with_reducible repeat (first | apply Kd.R_alloc | apply Kd.R_drewN | apply Kd.R_drew)); exact (Kd.R_mono (Kd.R_far (p := ⟨gb110, 1, none⟩) (Kd.R_far (p := ⟨gb110, 0, none⟩) (Kd.R_types HO106.out BK110.out (by decide)) (fun _ hk => hk.2) (.slice Ao91 t104.length co91)) (fun _ hk => hk.2) (.slice Ao95 t107.length co95)) (fun _ h_ => h_.1))) hb); have n1_ := Aside0.mk (Kd.N_below (by (with_reducible repeat (first | apply Kd.N_alloc | apply Kd.N_drewN | apply Kd.N_drew)); exact (Kd.N_mono (Kd.N_far (p := ⟨gb110, 1, none⟩) (Kd.N_far (p := ⟨gb110, 0, none⟩) (Kd.N_mono HO109.out (fun k_ hk => (⟨hk, hk.2⟩ : _ ∧ k_ ≠ gb110))) (fun _ hk => hk.2) (.slice Ao91 t104.length co91)) (fun _ hk => hk.2) (.slice Ao95 t107.length co95)) (fun _ h_ => h_.1))) hb); have n2_ := Aside0.mk (blk_below (g := gb101) (o := .cells #[.slice A0_0 l0_0.length c0_0, .slice A0_1 l0_1.length c0_1] 31 (0, 0)) (pY5) hb); have n3_ := Aside0.mk (blk_below (g := gb102) (o := .cells #[.slice none 0 0, .slice none 0 0] 31 (0, 0)) (pY6) hb); have n4_ := Aside0.mk (blk_below (g := gb110) (o := .cells #[.slice Ao91 t104.length co91, .slice Ao95 t107.length co95] 31 (0, 0)) (by (with_reducible repeat (first | refine blk_drewN ?_ _ | refine blk_drew ?_ | refine blk_alloc ?_ _)); refine blk_put (cs := #[.slice Ao91 t104.length co91, .slice none 0 0]) ?_ 1 _ rfl; (with_reducible repeat (first | refine blk_drewN ?_ _ | refine blk_drew ?_ | refine blk_alloc ?_ _)); refine blk_put (cs := #[.slice none 0 0, .slice none 0 0]) ?_ 0 _ rfl; (with_reducible repeat (first | refine blk_drewN ?_ _ | refine blk_drew ?_ | refine blk_alloc ?_ _)); exact BK110.out) hb); have n5_ := Aside0.mk (below_step (pY24) hb); clear HO106; clear HO109; clear BK101; clear BK102; clear BK110; clear HB; have HO106 := n0_; have HO109 := n1_; have BK101 := n2_; have BK102 := n3_; have BK110 := n4_; have HB := n5_; clear n0_ n1_ n2_ n3_ n4_ n5_; (try clear hb); (try clear hb2); (try clear hk); (try clear hi); have hcz98_0 : w97.cell? ⟨gb101, 0, none⟩ = some (.slice A0_0 l0_0.length c0_0) := (blk_cell BK101.out 0).trans rfl; have hcz98_1 : w97.cell? ⟨gb101, 1, none⟩ = some (.slice A0_1 l0_1.length c0_1) := (blk_cell BK101.out 1).trans rfl; have hfz98_0 := blk_frozen BK101.out 0; have hfz98_1 := blk_frozen BK101.out 1; have p112 : 0 ≤ (t111 : Int) := of_decide_eq_true (pY50); have q112 : t111 < (l0_1.length : Int) := of_decide_eq_true (pY50); obtain ⟨ad112, A112_1, c112_1, A112_2, c112_2, e112, hx112_0, hx112_1, hx112_2, hl112_1, hi112_1, hl112_2, hi112_2⟩ := at_T56 HR0_1.out t111 p112 q112; cases e112; replace hx112_0 := (HB.out.cell (World.block_lt_of_cell? w _ hx112_0)).trans hx112_0; replace hx112_1 := (HB.out.cell (World.block_lt_of_cell? w _ hx112_1)).trans hx112_1; replace hx112_2 := (HB.out.cell (World.block_lt_of_cell? w _ hx112_2)).trans hx112_2; have HR112_1 := Aside0.mk hi112_1; have HC112_1 := Aside0.mk hl112_1; clear hi112_1 hl112_1; have HR112_2 := Aside0.mk hi112_2; have HC112_2 := Aside0.mk hl112_2; clear hi112_2 hl112_2; replace p112 := eq_true p112; replace q112 := eq_true q112) | ((with_reducible refine gate_callee (f := 71) rfl ?_); refine goesL_ (some 31) rfl rfl Try.func71 (by kernel_rfl) rfl #[.slice A2 l2.length c2, .slice A112_2 ((rd_T56 l0_1 t111).f2).length c112_2] rfl (pY35) ?_; (with_reducible refine (spec_l1NamesOk.calls k _ _ l2 _ _ ((rd_T56 l0_1 t111).f2) false _ ?side1 ?side2 ?side3 ?side4 A28.out).mono ?_); (case side1 => exact pC (Kd.C_below HR2.out HB.out)); (case side2 => exact HC2.out); (case side3 => exact pC (Kd.C_below HR112_2.out HB.out)); (case side4 => exact HC112_2.out); rintro e w' ⟨rfl, ⟨nd, rfl⟩⟩; refine ⟨_, rfl, ?_⟩; (try (rw [drewN_self w97]; generalize hq_ : World.drewN w97 _ = w97; have n0_ : Aside0 (Kd.R Kd.string 9 w97 w.heap.size (fun k_ => (((w.heap.size ≤ k_)) ∧ True)) (.slice Ao91 t104.length co91) t104) := ⟨by rw [← hq_]; exact (pY45)⟩; have n1_ : Aside0 (Kd.N k56 56 w97 w.heap.size (fun k_ => ((((w.heap.size ≤ k_)) ∧ (some k_ ≠ (.slice Ao91 t104.length co91 : Value).ownBlock ∧ (k_ ≠ gb101 ∧ k_ ≠ gb102))) ∧ k_ ≠ gb110)) (.slice Ao95 t107.length co95) t107) := ⟨by rw [← hq_]; exact (pY46)⟩; have n2_ : Aside0 (w97.heap[gb101]? = some (.cells #[.slice A0_0 l0_0.length c0_0, .slice (some ad112) l0_1.length c0_1] 31 (0, 0))) := ⟨by rw [← hq_]; exact (pY37)⟩; have n3_ : Aside0 (w97.heap[gb102]? = some (.cells #[.slice none 0 0, .slice none 0 0] 31 (0, 0))) := ⟨by rw [← hq_]; exact (pY38)⟩; have n4_ : Aside0 (w97.heap[gb110]? = some (.cells #[.slice Ao91 t104.length co91, .slice Ao95 t107.length co95] 31 (0, 0))) := ⟨by rw [← hq_]; exact (pY40)⟩; have n5_ : Aside0 (Below w.heap.size w w97) := ⟨by rw [← hq_]; exact (pY24)⟩; clear HO106 HO109 BK101 BK102 BK110 HB hq_; have HO106 := n0_; have HO109 := n1_; have BK101 := n2_; have BK102 := n3_; have BK110 := n4_; have HB := n5_; clear n0_ n1_ n2_ n3_ n4_ n5_)); have hcz99_0 : w97.cell? ⟨gb110, 0, none⟩ = some (.slice Ao91 t104.length co91) := (blk_cell BK110.out 0).trans rfl; have hcz99_1 : w97.cell? ⟨gb110, 1, none⟩ = some (.slice Ao95 t107.length co95) := (blk_cell BK110.out 1).trans rfl; have hfz99_0 := blk_frozen BK110.out 0; have hfz99_1 := blk_frozen BK110.out 1; have hcz100_0 : w97.cell? ⟨gb102, 0, none⟩ = some (.slice none 0 0) := (blk_cell BK102.out 0).trans rfl; have hcz100_1 : w97.cell? ⟨gb102, 1, none⟩ = some (.slice none 0 0) := (blk_cell BK102.out 1).trans rfl; have hfz100_0 := blk_frozen BK102.out 0; have hfz100_1 := blk_frozen BK102.out 1))
      refine bodyPost_ret (results_ct rfl _ _ gb102 31 #[.slice Ao91 t104.length co91, .slice Ao95 t107.length co95] (0, 0) _ rfl (by (with_reducible repeat (first | refine blk_drewN ?_ _ | refine blk_drew ?_ | refine blk_alloc ?_ _)); refine blk_put (cs := #[.slice Ao91 t104.length co91, .slice none 0 0]) ?_ 1 _ rfl; (with_reducible repeat (first | refine blk_drewN ?_ _ | refine blk_drew ?_ | refine blk_alloc ?_ _)); refine blk_put (cs := #[.slice none 0 0, .slice none 0 0]) ?_ 0 _ rfl; (with_reducible repeat (first | refine blk_drewN ?_ _ | refine blk_drew ?_ | refine blk_alloc ?_ _)); exact BK102.out) Try.underlying31 rfl (by kernel_rfl)) rfl ?_
      exact ⟨_, _, by first | rfl | (simp [errW_none, errW_some] <;> rfl) | (simp [*, errW_none, errW_some] <;> rfl), by (with_reducible repeat (first | apply Kd.R_alloc | apply Kd.R_drewN | apply Kd.R_drew)); exact Kd.R_mono (Kd.R_far (p := ⟨gb102, 1, none⟩) (Kd.R_far (p := ⟨gb102, 0, none⟩) (Kd.R_types HO106.out BK102.out (by decide)) (fun _ hk => hk.2) (.slice Ao91 t104.length co91)) (fun _ hk => hk.2) (.slice Ao95 t107.length co95)) (fun _ hk => hk.1.1), by (with_reducible repeat (first | apply Kd.N_alloc | apply Kd.N_drewN | apply Kd.N_drew)); exact Kd.N_mono (Kd.N_far (p := ⟨gb102, 1, none⟩) (Kd.N_far (p := ⟨gb102, 0, none⟩) (Kd.N_mono HO109.out (fun k_ hk => (⟨hk, hk.1.2.2.2⟩ : _ ∧ k_ ≠ gb102))) (fun _ hk => hk.2) (.slice Ao91 t104.length co91)) (fun _ hk => hk.2) (.slice Ao95 t107.length co95)) (fun _ hk => ⟨hk.1.1.1, hk.1.1.2.1⟩), pY24⟩
    ·rw [if_neg c27] at H
     exact absurd H (by simp)
   ·rw [if_neg c26] at H
    exact absurd H (by simp)
 ·replace c5 := Bool.eq_false_iff.mpr c5
  subst c5
  have H1 : (some (([] : List ByteArray), ([] : List (S56)), 1)) = some (r1, r2, r3) := by rw [if_neg (show ¬ (false = true) by decide)] at H; exact H
  clear H
  have H := H1
  clear H1
  simp only [Option.some.injEq, Prod.mk.injEq] at H
  obtain ⟨rfl, rfl, rfl⟩ := H
  go_enter Try.func49, Try.ntmps49
  go_wp2_with (first | ((with_reducible refine gate_dst (N := 3) rfl ?_); refine box_event ?hg (N := 3) ?hd (cs := #[.slice A0_0 l0_0.length c0_0, .slice A0_1 l0_1.length c0_1]) (t := 31) ?hr ?_; (case hd => rfl); (case hg => rfl); (case hr => (try (obtain ⟨Az_, cz_, ez_⟩ := Kd.R_slice HO128.out; subst ez_)); (try (obtain ⟨Az_, cz_, ez_⟩ := Kd.R_slice HO_10.out; subst ez_)); first | (go_simp; done) | (go_simp; rfl)); intro gb101 hg w101 hbox hb; have n0_ := Aside0.mk (below_step (pY36) hb); have n1_ := Aside0.mk (hbox); have n2_ := Aside0.mk ((pY33 : w.heap.size ≤ gb101)); have n3_ := Aside0.mk ((pY33 : w.heap.size ≤ gb101)); clear HB; have HB := n0_; have BK101 := n1_; have GW101 := n2_; have GE101 := n3_; clear n0_ n1_ n2_ n3_; clear hb hbox hg) | ((with_reducible refine gate_dst (N := 6) rfl ?_); refine box_event ?hg (N := 6) ?hd (cs := #[.slice none 0 0, .slice none 0 0]) (t := 31) ?hr ?_; (case hd => rfl); (case hg => rfl); (case hr => (try (obtain ⟨Az_, cz_, ez_⟩ := Kd.R_slice HO128.out; subst ez_)); (try (obtain ⟨Az_, cz_, ez_⟩ := Kd.R_slice HO_10.out; subst ez_)); first | (go_simp; done) | (go_simp; rfl)); intro gb102 hg w102 hbox hb; have n0_ := Aside0.mk (blk_below (g := gb101) (o := .cells #[.slice A0_0 l0_0.length c0_0, .slice A0_1 l0_1.length c0_1] 31 (0, 0)) (pY37) hb); have n1_ := Aside0.mk (below_step (pY34) hb); have n2_ := Aside0.mk (hbox); have n3_ := Aside0.mk ((pY26 : w.heap.size ≤ gb102)); have n4_ := Aside0.mk ((pY26 : w.heap.size ≤ gb102)); have n5_ := Aside0.mk ((pY16 : gb101 ≠ gb102)); have n6_ := Aside0.mk ((pY17 : gb102 ≠ gb101)); clear BK101; clear HB; have BK101 := n0_; have HB := n1_; have BK102 := n2_; have GW102 := n3_; have GE102 := n4_; have NB101_102 := n5_; have NB102_101 := n6_; clear n0_ n1_ n2_ n3_ n4_ n5_ n6_; clear hb hbox hg; have hnb103 := NB101_102.out; have hnc103 := NB102_101.out; have hcz104_0 : w102.cell? ⟨gb101, 0, none⟩ = some (.slice A0_0 l0_0.length c0_0) := (blk_cell BK101.out 0).trans rfl; have hcz104_1 : w102.cell? ⟨gb101, 1, none⟩ = some (.slice A0_1 l0_1.length c0_1) := (blk_cell BK101.out 1).trans rfl; have hfz104_0 := blk_frozen BK101.out 0; have hfz104_1 := blk_frozen BK101.out 1) | ((with_reducible refine gate_callee (f := 22) rfl ?_); refine goesL_ (some 13) rfl rfl Try.func22 (by kernel_rfl) rfl #[.agg #[.slice A0_0 l0_0.length c0_0, .slice A0_1 l0_1.length c0_1]] rfl (pY35) ?_; (with_reducible refine (spec_ShareBookOk.calls k _ _ l0_0 _ _ l0_1 false _ ?side1 ?side2 ?side3 ?side4 A4.out).mono ?_); (case side1 => exact pC (Kd.C_below HR0_0.out HB.out)); (case side2 => exact HC0_0.out); (case side3 => exact pC (Kd.C_below HR0_1.out HB.out)); (case side4 => exact HC0_1.out); rintro e w105 ⟨rfl, hb⟩; refine ⟨_, rfl, ?_⟩; have n0_ := Aside0.mk (blk_below (g := gb101) (o := .cells #[.slice A0_0 l0_0.length c0_0, .slice A0_1 l0_1.length c0_1] 31 (0, 0)) (pY37) hb); have n1_ := Aside0.mk (blk_below (g := gb102) (o := .cells #[.slice none 0 0, .slice none 0 0] 31 (0, 0)) (pY38) hb); have n2_ := Aside0.mk (below_step (pY27) hb); clear BK101; clear BK102; clear HB; have BK101 := n0_; have BK102 := n1_; have HB := n2_; clear n0_ n1_ n2_; (try clear hb); (try clear hb2); (try clear hk); (try clear hi); have hcz106_0 : w105.cell? ⟨gb102, 0, none⟩ = some (.slice none 0 0) := (blk_cell BK102.out 0).trans rfl; have hcz106_1 : w105.cell? ⟨gb102, 1, none⟩ = some (.slice none 0 0) := (blk_cell BK102.out 1).trans rfl; have hfz106_0 := blk_frozen BK102.out 0; have hfz106_1 := blk_frozen BK102.out 1))
  refine bodyPost_ret (results_ct rfl _ _ gb102 31 #[.slice none 0 0, .slice none 0 0] (0, 0) _ rfl (by (with_reducible repeat (first | refine blk_drewN ?_ _ | refine blk_drew ?_ | refine blk_alloc ?_ _)); refine blk_put (cs := #[.slice none 0 0, .slice none 0 0]) ?_ 1 _ rfl; (with_reducible repeat (first | refine blk_drewN ?_ _ | refine blk_drew ?_ | refine blk_alloc ?_ _)); refine blk_put (cs := #[.slice none 0 0, .slice none 0 0]) ?_ 0 _ rfl; (with_reducible repeat (first | refine blk_drewN ?_ _ | refine blk_drew ?_ | refine blk_alloc ?_ _)); exact BK102.out) Try.underlying31 rfl (by kernel_rfl)) rfl ?_
  exact ⟨_, _, by first | rfl | (simp [errW_none, errW_some] <;> rfl) | (simp [*, errW_none, errW_some] <;> rfl), by first | exact Kd.R_nil _ _ _ _ _ | exact Kd.N_nil _ _ _ _ _ | exact Kd.V_nil _ _ _ _ _ | exact Kd.Q_nil _ _ _ _ _ | exact Kd.S_nil _ _ _ _ _, by first | exact Kd.S_nil _ _ _ _ _ | exact Kd.N_nil _ _ _ _ _ | exact Kd.V_nil _ _ _ _ _ | exact Kd.Q_nil _ _ _ _ _ | exact Kd.R_nil _ _ _ _ _, pY27⟩
end Go.Proofs.Ytaofjgnhapnndaa.Q
namespace Go.Proofs.Ytaofjgnhapnndaa.Q
open Go.RowKit Go.Proofs.YtaofjgnhapnndaaW.PrintWords Go.Proofs.YtaofjgnhapnndaaW.PrintLast Go.Proofs.YtaofjgnhapnndaaW.PrintMore
set_option linter.unusedVariables false
set_option linter.unusedSimpArgs false
def slices_Index_string_string.l0 : Nat → List ByteArray → ByteArray → Int → Int → Option (Int)
 | 0, _, _, _, _ => none
 | k + 1, x0, x1, x7, x8 => if x8 < x7 then (if 0 ≤ x8 then (if x8 < (x0.length : Int) then (if x1.toList = (rdOf ByteArray.empty x0 x8).toList then (some x8) else (slices_Index_string_string.l0 k x0 x1 x7 (wrap64 (x8 + 1)))) else (none)) else (none)) else (some (-1))
def slices_Index_string_string.f (k : Nat) (l0 : List ByteArray) (a1 : ByteArray) : Option (Int) := slices_Index_string_string.l0 k l0 a1 (l0.length : Int) 0
theorem slices_Index_string_string.mono_l : ∀ k, (∀ y0 y1 y2 y3, LeO (slices_Index_string_string.l0 k y0 y1 y2 y3) (slices_Index_string_string.l0 (k + 1) y0 y1 y2 y3))
 | 0 => fun _ _ _ _ r h => by simp [slices_Index_string_string.l0] at h
 | k + 1 => by
  have ih0 := slices_Index_string_string.mono_l k
  ·intro y0 y1 y2 y3
   unfold slices_Index_string_string.l0
   repeat' first
   | (with_reducible exact ih0 _ _ _ _)
   | (with_reducible exact LeO.refl _)
   | (with_reducible exact LeO.none _)
   | (with_reducible refine LeO.ite ?_ ?_)
   | (with_reducible refine LeO.bind ?_ (fun _ => ?_))
   | exact ih0 _ _ _ _
   | exact LeO.none _
   | refine LeO.ite ?_ ?_
   | refine LeO.bind ?_ (fun _ => ?_)
theorem slices_Index_string_string.mono : ∀ a0 a1 k, LeO (slices_Index_string_string.f k a0 a1) (slices_Index_string_string.f (k + 1) a0 a1) := by
 intro a0 a1 k
 have ih0 := slices_Index_string_string.mono_l k
 unfold slices_Index_string_string.f
 repeat' first
   | (with_reducible exact ih0 _ _ _ _)
   | (with_reducible exact LeO.refl _)
   | (with_reducible exact LeO.none _)
   | (with_reducible refine LeO.ite ?_ ?_)
   | (with_reducible refine LeO.bind ?_ (fun _ => ?_))
   | exact ih0 _ _ _ _
   | exact LeO.none _
   | refine LeO.ite ?_ ?_
   | refine LeO.bind ?_ (fun _ => ?_)
set_option maxHeartbeats 8000000 in
set_option maxRecDepth 100000 in
theorem slices_Index_string_string.calls (k : Nat) (A0 : Option Addr) (c0 : Nat) (l0 : List ByteArray) (a1 : ByteArray) (r : Int) (w : World) (hr0 : Kd.C Kd.string w A0 l0.length l0) (hc0 : l0.length ≤ c0) (h : slices_Index_string_string.f k l0 a1 = some r) :
  Calls Try.prog 116 #[.slice A0 l0.length c0, .string a1] w fun e w' => e = .returned (.int .i64 r) ∧ Drawn0 w w' := by
 have HR0 := Aside0.mk hr0
 have HC0 := Aside0.mk hc0
 clear hr0 hc0
 have H : (slices_Index_string_string.l0 k l0 a1 (l0.length : Int) 0) = some r := h
 clear h
 have H' := Aside0.mk H
 clear H
 go_enter Try.func116, Try.ntmps116
 go_wp2
 go_loopg [8] k (fun kq v8 w' => ∃ (x8_1 : Int), v8 = .int .i64 x8_1 ∧ Aside0 (slices_Index_string_string.l0 kq l0 a1 (l0.length : Int) x8_1 = some r) ∧ Aside0 (kq ≤ k) ∧ Drawn0 w w')
 case atStart => exact ⟨(0), (pY51), H', ⟨Nat.le_refl _⟩, pY49⟩
 case round =>
  clear H'
  try clear c1
  try clear p2
  obtain ⟨x8_1, rfl, HA, HK1, ⟨m1, rfl⟩⟩ := hrel
  cases gk with
  | zero => exact absurd HA.out (by simp [slices_Index_string_string.l0])
  | succ k1 =>
   have H := HA.out
   clear HA
   simp only [slices_Index_string_string.l0] at H
   by_cases c3 : x8_1 < (l0.length : Int)
   ·rw [if_pos c3] at H
    have c3b0 : decide (x8_1 < (l0.length : Int)) = true := decide_eq_true c3
    clear c3
    by_cases c4 : 0 ≤ x8_1
    ·rw [if_pos c4] at H
     have c4b0 : decide (0 ≤ x8_1) = true := decide_eq_true c4
     clear c4
     by_cases c5 : x8_1 < (l0.length : Int)
     ·rw [if_pos c5] at H
      have c5b0 : decide (x8_1 < (l0.length : Int)) = true := decide_eq_true c5
      clear c5
      by_cases c6 : a1.toList = (rdOf ByteArray.empty l0 x8_1).toList
      ·rw [if_pos c6] at H
       have c6b0 : (a1.toList == (rdOf ByteArray.empty l0 x8_1).toList) = true := beq_iff_eq.mpr c6
       have c6b1 : (a1.toList != (rdOf ByteArray.empty l0 x8_1).toList) = false := bne_eq_false_iff_eq.mpr c6
       clear c6
       obtain rfl := Option.some.inj H
       have p101 : 0 ≤ (x8_1 : Int) := of_decide_eq_true (pY50)
       have q101 : x8_1 < (l0.length : Int) := of_decide_eq_true (pY50)
       obtain ⟨ad101, e101, hx101_0⟩ := Kd.at_string HR0.out x8_1 p101 q101
       cases e101
       replace p101 := eq_true p101
       replace q101 := eq_true q101
       go_wp2
       go_ret
       exact ⟨by first | rfl | (simp; done) | (simp [*]; done), pY49⟩
      ·rw [if_neg c6] at H
       have c6b0 : (a1.toList == (rdOf ByteArray.empty l0 x8_1).toList) = false := beq_eq_false_iff_ne.mpr c6
       have c6b1 : (a1.toList != (rdOf ByteArray.empty l0 x8_1).toList) = true := bne_iff_ne.mpr c6
       have H' := Aside0.mk H
       clear H
       have p101 : 0 ≤ (x8_1 : Int) := of_decide_eq_true (pY50)
       have q101 : x8_1 < (l0.length : Int) := of_decide_eq_true (pY50)
       obtain ⟨ad101, e101, hx101_0⟩ := Kd.at_string HR0.out x8_1 p101 q101
       cases e101
       replace p101 := eq_true p101
       replace q101 := eq_true q101
       go_wp2
       go_roundg k1
       case measure => have := HK1.out; omega
       case rel => exact ⟨(wrap64 (x8_1 + 1)), (pY51), H', ⟨by have := HK1.out; omega⟩, pY49⟩
     ·rw [if_neg c5] at H
      exact absurd H (by simp)
    ·rw [if_neg c4] at H
     exact absurd H (by simp)
   ·rw [if_neg c3] at H
    have c3b0 : decide (x8_1 < (l0.length : Int)) = false := decide_eq_false c3
    clear c3
    obtain rfl := Option.some.inj H
    go_wp2
    go_ret
    exact ⟨by first | rfl | (simp; done) | (simp [*]; done), pY49⟩
end Go.Proofs.Ytaofjgnhapnndaa.Q
namespace Go.Proofs.Ytaofjgnhapnndaa.Q
open Go.RowKit Go.Proofs.YtaofjgnhapnndaaW.PrintWords Go.Proofs.YtaofjgnhapnndaaW.PrintLast Go.Proofs.YtaofjgnhapnndaaW.PrintMore
set_option linter.unusedVariables false
set_option linter.unusedSimpArgs false
def slices_Contains_string_string.f (k : Nat) (l0 : List ByteArray) (a1 : ByteArray) : Option (Bool) := (slices_Index_string_string.f k l0 a1).bind fun t101 => (some (decide (t101 ≥ 0)))
theorem slices_Contains_string_string.mono : ∀ a0 a1 k, LeO (slices_Contains_string_string.f k a0 a1) (slices_Contains_string_string.f (k + 1) a0 a1) := by
 intro a0 a1 k
 unfold slices_Contains_string_string.f
 repeat' first
   | (with_reducible exact slices_Index_string_string.mono _ _ _)
   | (with_reducible exact LeO.refl _)
   | (with_reducible exact LeO.none _)
   | (with_reducible refine LeO.ite ?_ ?_)
   | (with_reducible refine LeO.bind ?_ (fun _ => ?_))
   | exact slices_Index_string_string.mono _ _ _
   | exact LeO.none _
   | refine LeO.ite ?_ ?_
   | refine LeO.bind ?_ (fun _ => ?_)
set_option maxHeartbeats 8000000 in
set_option maxRecDepth 100000 in
theorem slices_Contains_string_string.calls (k : Nat) (A0 : Option Addr) (c0 : Nat) (l0 : List ByteArray) (a1 : ByteArray) (r : Bool) (w : World) (hr0 : Kd.C Kd.string w A0 l0.length l0) (hc0 : l0.length ≤ c0) (h : slices_Contains_string_string.f k l0 a1 = some r) :
  Calls Try.prog 81 #[.slice A0 l0.length c0, .string a1] w fun e w' => e = .returned (.bool r) ∧ Drawn0 w w' := by
 have HR0 := Aside0.mk hr0
 have HC0 := Aside0.mk hc0
 clear hr0 hc0
 have H : ((slices_Index_string_string.f k l0 a1).bind fun t101 => (some (decide (t101 ≥ 0)))) = some r := h
 clear h
 replace H := Option.bind_eq_some_iff.mp H
 obtain ⟨t101, A30, H⟩ := H
 replace H : (some (decide (t101 ≥ 0))) = some r := H
 have A3 := Aside0.mk A30
 clear A30
 obtain rfl := Option.some.inj H
 go_enter Try.func81, Try.ntmps81
 go_wp2_with (first | ((with_reducible refine gate_callee (f := 116) rfl ?_); refine goesL_ (some 7) rfl rfl Try.func116 (by kernel_rfl) rfl #[.slice A0 l0.length c0, .string a1] rfl (pY35) ?_; (with_reducible refine (slices_Index_string_string.calls k _ _ l0 a1 t101 _ ?side1 ?side2 A3.out).mono ?_); (case side1 => exact pC HR0.out); (case side2 => exact HC0.out); rintro e w' ⟨rfl, ⟨nd, rfl⟩⟩; refine ⟨_, rfl, ?_⟩))
 go_ret
 exact ⟨by first | rfl | (simp; done) | (simp [*]; done), pY49⟩
end Go.Proofs.Ytaofjgnhapnndaa.Q
namespace Go.Proofs.Ytaofjgnhapnndaa.Q
open Go.RowKit Go.Proofs.YtaofjgnhapnndaaW.PrintWords Go.Proofs.YtaofjgnhapnndaaW.PrintLast Go.Proofs.YtaofjgnhapnndaaW.PrintMore
set_option linter.unusedVariables false
set_option linter.unusedSimpArgs false
def hasS (l : List ByteArray) (s : ByteArray) : Bool := l.any fun x => s.toList == x.toList
theorem wrap_succ {i n : Nat} (h : i < n) (hn : n ≤ 9223372036854775807) : wrap64 ((i : Int) + 1) = ((i + 1 : Nat) : Int) := by
  unfold wrap64; omega
theorem rdOf_nat {α : Type} (d : α) (l : List α) (i : Nat) (h : i < l.length) : rdOf d l (i : Int) = l[i] := by
  unfold rdOf; simp [List.getD_eq_getElem?_getD, h]
theorem index_go (l : List ByteArray) (s : ByteArray) (hl : l.length ≤ 9223372036854775807) : ∀ (d k i : Nat), l.length - i = d → i ≤ l.length → d < k →
    ∃ r, slices_Index_string_string.l0 k l s (l.length : Int) (i : Int) = some r ∧ decide (r ≥ 0) = (l.drop i).any fun x => s.toList == x.toList := by
  intro d
  induction d with
  | zero =>
    intro k i hd hi hk
    obtain ⟨k, rfl⟩ : ∃ m, k = m + 1 := ⟨k - 1, by omega⟩
    have : i = l.length := by omega
    subst this
    refine ⟨-1, ?_, by simp⟩
    simp only [slices_Index_string_string.l0]
    rw [if_neg (by omega)]
  | succ d ih =>
    intro k i hd hi hk
    obtain ⟨k, rfl⟩ : ∃ m, k = m + 1 := ⟨k - 1, by omega⟩
    have hlt : i < l.length := by omega
    rw [List.drop_eq_getElem_cons hlt]
    simp only [slices_Index_string_string.l0, List.any_cons]
    rw [if_pos (by omega), if_pos (by omega), if_pos (by omega), rdOf_nat _ _ _ hlt]
    by_cases e : s.toList = l[i].toList
    · exact ⟨i, by rw [if_pos e], by simp [e]⟩
    · obtain ⟨r, hr, h⟩ := ih k (i + 1) (by omega) (by omega) (by omega)
      refine ⟨r, ?_, by rw [h]; simp [e]⟩
      rw [if_neg e, wrap_succ hlt hl]
      exact hr
theorem contains_at (l : List ByteArray) (s : ByteArray) (hl : l.length ≤ 9223372036854775807) : slices_Contains_string_string.f (l.length + 1) l s = some (hasS l s) := by
  obtain ⟨r, hr, h⟩ := index_go l s hl l.length (l.length + 1) 0 (by omega) (by omega) (by omega)
  unfold slices_Contains_string_string.f slices_Index_string_string.f
  rw [show slices_Index_string_string.l0 (l.length + 1) l s (l.length : Int) 0 = some r from hr]
  simp only [Option.bind_some]
  rw [h]
  rfl
end Go.Proofs.Ytaofjgnhapnndaa.Q
