/- Texts that the row needs: words on memory and rows, the contracts of the functions it reaches, and the plain lemmas on what they compute. -/
import Derived.Below
import Derived.Deep.Draws
import Derived.Deep.AppendLies
import Derived.Maps.AppendAt
import Derived.OwnWalk
import Derived.Laws.BytesArg
import Derived.Laws.MakeOwn
import Derived.Laws.OwnMore
import Derived.Deep.OwnRows
import Derived.Tactics
import Derived.Lib.ConvBytes
import Derived.Laws.Slices
import Derived.WalkKit
import Derived.KernelRfl
import Derived.RowKit3
import Derived.Deep.LoopGhost
import Derived.Deep.QuietTactic
import Derived.BigQuiet
import Derived.WideLaws
import Derived.Deep.DeepCutAuto
import Derived.Deep.CutBlock
import Derived.Deep.RegionHeld3
import Derived.Laws.Rows
import Derived.Lib.AppendStr
import Derived.ArgAppend
import Derived.Laws.IdiomCopy
import Derived.RowKit
import Derived.OrdersHeld
import Derived.Laws.BitsLemmas
import Derived.Laws.StructEq
import Derived.Test.YtaofjgnhapnndaaProg
import Derived.WalkLawsBesides
import Derived.Shelf.Abstract
import Derived.Test.YtaofjgnhapnndaaXMaa
import Derived.Test.YtaofjgnhapnndaaXMab
import Derived.Test.YtaofjgnhapnndaaXMac
import Derived.Test.YtaofjgnhapnndaaXMad
import Derived.Test.YtaofjgnhapnndaaXMae
import Derived.Test.YtaofjgnhapnndaaXMaf
import Derived.Test.YtaofjgnhapnndaaXMag
import Derived.Test.YtaofjgnhapnndaaXMah
import Derived.Test.YtaofjgnhapnndaaXMal
import Derived.Test.YtaofjgnhapnndaaXMam
import Derived.Test.YtaofjgnhapnndaaXMan
import Derived.Test.YtaofjgnhapnndaaXMao
import Derived.Test.YtaofjgnhapnndaaXMaw
import Derived.Test.YtaofjgnhapnndaaXMax
open Go.Proofs.YtaofjgnhapnndaaFM
namespace Go.Proofs.Ytaofjgnhapnndaa.Q
open Go.RowKit Go.Proofs.YtaofjgnhapnndaaW.PrintWords Go.Proofs.YtaofjgnhapnndaaW.PrintLast Go.Proofs.YtaofjgnhapnndaaW.PrintMore
set_option linter.unusedVariables false
set_option linter.unusedSimpArgs false
def idxI (p : ByteArray → Bool) (l : List IB) (i : Nat) : Int := ((findR (fun i => p (gB l i).f0) l.length i).map fun (i : Nat) => (i : Int)).getD (-1)
theorem idxI_end (p : ByteArray → Bool) (l : List IB) : idxI p l l.length = -1 := by unfold idxI; rw [findR_end]; rfl
theorem idxI_step (p : ByteArray → Bool) {l : List IB} {i : Nat} (h : i < l.length) : idxI p l i = if p (gB l i).f0 = true then (i : Int) else idxI p l (i + 1) := by
 unfold idxI; rw [findR_step _ h]; cases p (gB l i).f0 <;> rfl
def PredB (g : Nat) (lb : Array Value) (p : ByteArray → Bool) (w : World) : Prop :=
 ∀ (W : World) (s : ByteArray) (A1 : Option Addr) (n1 c1 : Nat) (A2 : Option Addr) (n2 c2 : Nat), Below w.heap.size w W → Calls Try.prog g (#[.agg #[.string s, .slice A1 n1 c1, .slice A2 n2 c2]] ++ lb) W fun e w' => e = .returned (.bool (p s)) ∧ Below w.heap.size w w'
set_option maxHeartbeats 2000000 in
theorem indexFuncB_any (g : Nat) (lb : Array Value) (eg : ∀ args w, (callFunc g args).run Try.prog w = .ok (.enter g args) w) (p : ByteArray → Bool) (A0 : Option Addr) (c0 : Nat) (l0 : List IB) (w : World)
  (hr0 : Kd.C k56 w A0 l0.length l0) (hp : PredB g lb p w) :
  Calls Try.prog 117 #[.slice A0 l0.length c0, .func (.func g) #[] lb] w fun e w' => e = .returned (.int .i64 (idxI p l0 0)) ∧ Below w.heap.size w w' := by
 have hbig := C_len hr0
 have HR0 := Aside0.mk hr0
 clear hr0
 have HP := Aside0.mk hp
 clear hp
 have hu := Try.underlying56
 go_enter Try.func117, Try.ntmps117
 go_wp2
 go_loopg [5, 8] l0.length (fun gg _ s8 wr => ∃ kk : Nat, kk ≤ l0.length ∧ l0.length - kk ≤ gg ∧ s8 = .int .i64 kk ∧ Aside0 (Below w.heap.size w wr) ∧ Aside0 (idxI p l0 0 = idxI p l0 kk))
 case atStart => exact ⟨0, Nat.zero_le _, by omega, rfl, ⟨Below.refl _ w⟩, ⟨rfl⟩⟩
 case round =>
  obtain ⟨kk, hkk, hg, rfl, BW, A⟩ := hrel
  by_cases hlt : kk < l0.length
  ·have hltz : (kk : Int) < (l0.length : Int) := by omega
   have e1 := A.out
   rw [idxI_step p hlt] at e1
   have E1 := Aside0.mk e1
   clear e1
   obtain ⟨ad, A1, c1, A2, c2, rfl, hx0, hx1, hx2, _, _, _, _⟩ := at_T56 HR0.out (kk : Int) (by omega) (by omega)
   have hcall := HP.out wr (gB l0 kk).f0 A1 (rd_T56 l0 (kk : Int)).f1.length c1 A2 (rd_T56 l0 (kk : Int)).f2.length c2 BW.out
   rw [← rdB_cast] at hcall E1
   rw [Int.toNat_natCast] at hx0 hx1 hx2
   replace hx0 := (BW.out.cell (World.block_lt_of_cell? w _ hx0)).trans hx0
   replace hx1 := (BW.out.cell (World.block_lt_of_cell? w _ hx1)).trans hx1
   replace hx2 := (BW.out.cell (World.block_lt_of_cell? w _ hx2)).trans hx2
   generalize rd_T56 l0 (kk : Int) = y at hx0 hx1 hx2 hcall E1
   obtain ⟨y0, y1, y2⟩ := y
   cases hq : p y0 with
   | true =>
    rw [hq] at hcall
    have E2 : Aside0 (idxI p l0 0 = kk) := ⟨by rw [E1.out, if_pos hq]⟩
    clear hq
    go_wp2_with (go_at_fn g; refine hcall.mono ?_; rintro e w' ⟨rfl, hb'⟩)
    go_ret
    exact ⟨by rw [E2.out]; rfl, hb'⟩
   | false =>
    rw [hq] at hcall
    have E2 : Aside0 (idxI p l0 0 = idxI p l0 (kk + 1)) := ⟨by rw [E1.out, if_neg (by simp [hq])]⟩
    clear hq
    go_wp2_with (go_at_fn g; refine hcall.mono ?_; rintro e w' ⟨rfl, hb'⟩)
    go_roundg (l0.length - (kk + 1))
    case measure => omega
    case rel => exact ⟨kk + 1, by omega, by omega, by go_num, ⟨hb'⟩, E2⟩
  ·have hltz : ¬ (kk : Int) < (l0.length : Int) := by omega
   have hk2 : kk = l0.length := by omega
   have E2 : Aside0 (idxI p l0 0 = -1) := ⟨by rw [A.out, hk2, idxI_end]⟩
   subst hk2
   go_wp2
   go_ret
   exact ⟨by rw [E2.out]; rfl, BW.out⟩
theorem at1_any (s n : ByteArray) (A1 : Option Addr) (n1 c1 : Nat) (A2 : Option Addr) (n2 c2 : Nat) (gb : Nat) (W : World) (hg : gb < W.heap.size) (hcell : W.cell? ⟨gb, 0, none⟩ = some (.string n)) :
  Calls Try.prog 118 #[.agg #[.string s, .slice A1 n1 c1, .slice A2 n2 c2], .pointer (some ⟨gb, 0, none⟩)] W fun e w' => e = .returned (.bool (s.toList == n.toList)) ∧ Below W.heap.size W w' := by
 have hu := Try.underlying56
 have hne : gb ≠ W.heap.size := by omega
 go_enter Try.func118, Try.ntmps118
 go_wp2
 go_ret
 exact ⟨rfl, (Below.refl _ _).alloc (Nat.le_refl _) _⟩
def impl_ShareBook_at.f (l0_0 : List ByteArray) (l0_1 : List IB) (a1 : ByteArray) : Option (Int) := some (idxI (fun s => s.toList == a1.toList) l0_1 0)
theorem impl_ShareBook_at.calls (A0_0 : Option Addr) (c0_0 : Nat) (l0_0 : List ByteArray) (A0_1 : Option Addr) (c0_1 : Nat) (l0_1 : List IB) (a1 : ByteArray) (r : Int) (w : World) (hr0_0 : Kd.C Kd.string w A0_0 l0_0.length l0_0) (hc0_0 : l0_0.length ≤ c0_0) (hr0_1 : Kd.C k56 w A0_1 l0_1.length l0_1) (hc0_1 : l0_1.length ≤ c0_1) (h : impl_ShareBook_at.f l0_0 l0_1 a1 = some r) :
  Calls Try.prog 84 #[.agg #[.slice A0_0 l0_0.length c0_0, .slice A0_1 l0_1.length c0_1], .string a1] w fun e w' => e = .returned (.int .i64 r) ∧ Below w.heap.size w w' := by
 obtain rfl := Option.some.inj h
 clear h
 have hu := Try.underlying31
 have HW : Aside0 (Below w.heap.size w ((w.alloc (.cells #[.slice A0_0 l0_0.length c0_0, .slice A0_1 l0_1.length c0_1] 31 (0, 0))).alloc (.cells #[.string a1] 9 (0, 0)))) := ⟨((Below.refl _ _).alloc (Nat.le_refl _) _).alloc (by simp) _⟩
 have HC : Aside0 (Calls Try.prog 117 #[.slice A0_1 l0_1.length c0_1, .func (.func 118) #[] #[.pointer (some ⟨w.heap.size + 1, 0, none⟩)]] ((w.alloc (.cells #[.slice A0_0 l0_0.length c0_0, .slice A0_1 l0_1.length c0_1] 31 (0, 0))).alloc (.cells #[.string a1] 9 (0, 0))) fun e w' => e = .returned (.int .i64 (idxI (fun s => s.toList == a1.toList) l0_1 0)) ∧ Below ((w.alloc (.cells #[.slice A0_0 l0_0.length c0_0, .slice A0_1 l0_1.length c0_1] 31 (0, 0))).alloc (.cells #[.string a1] 9 (0, 0))).heap.size ((w.alloc (.cells #[.slice A0_0 l0_0.length c0_0, .slice A0_1 l0_1.length c0_1] 31 (0, 0))).alloc (.cells #[.string a1] 9 (0, 0))) w') := by
  refine ⟨indexFuncB_any 118 _ (enters_of Try.func118 (by kernel_rfl) rfl) (fun s => s.toList == a1.toList) A0_1 c0_1 l0_1 _ (Kd.C_below hr0_1 HW.out) ?_⟩
  intro W s A1 n1 c1 A2 n2 c2 hb
  have hcell : W.cell? ⟨w.heap.size + 1, 0, none⟩ = some (.string a1) := by
   rw [hb.cell (p := ⟨w.heap.size + 1, 0, none⟩) (by simp)]
   simp
  exact (at1_any s a1 A1 n1 c1 A2 n2 c2 (w.heap.size + 1) W (Nat.lt_of_lt_of_le (by simp) hb.size) hcell).mono fun e w' ⟨he, hd⟩ => ⟨he, below_then hb hb.size hd⟩
 generalize idxI (fun s => s.toList == a1.toList) l0_1 0 = b at HC
 clear hr0_0 hc0_0 hr0_1 hc0_1
 go_enter Try.func84, Try.ntmps84
 go_wp2_with (go_at_call 117; refine HC.out.mono ?_; rintro e w' ⟨rfl, hb'⟩)
 go_ret
 exact ⟨rfl, below_then HW.out HW.out.size hb'⟩
end Go.Proofs.Ytaofjgnhapnndaa.Q
namespace Go.Proofs.Ytaofjgnhapnndaa.Q
open Go.RowKit Go.Proofs.YtaofjgnhapnndaaW.PrintWords Go.Proofs.YtaofjgnhapnndaaW.PrintLast Go.Proofs.YtaofjgnhapnndaaW.PrintMore
set_option linter.unusedVariables false
set_option linter.unusedSimpArgs false
mutual
def impl_ShareWaits.j0 : Nat → Int → Bool → List ByteArray → List (S56) → Option (List ByteArray)
 | 0, _, _, _, _ => none
 | k + 1, x5, x18, x102000, x102001 => if x18 = true then (some ([] : List ByteArray)) else (impl_ShareWaits.l0 k x5 (([] : List ByteArray)) x102001 (x102001.length : Int) 0 x102000 x102001)
def impl_ShareWaits.l0 : Nat → Int → List ByteArray → List (S56) → Int → Int → List ByteArray → List (S56) → Option (List ByteArray)
 | 0, _, _, _, _, _, _, _ => none
 | k + 1, x5, x6, x21, x22, x23, x102000, x102001 => if x23 < x22 then (if 0 ≤ x23 then (if x23 < (x21.length : Int) then (if x23 = x5 then (impl_ShareWaits.l0 k x5 x6 x21 x22 (wrap64 (x23 + 1)) x102000 x102001) else (if 0 ≤ x5 then (if x5 < (x102001.length : Int) then ((impl_common.f ((rd_T56 x21 x23).f1) ((rd_T56 x102001 x5).f2)).bind fun t110 => (if t110 = true then (if x6.length < 8796093022208 then (impl_ShareWaits.l0 k x5 (x6 ++ [(rd_T56 x21 x23).f0]) x21 x22 (wrap64 (x23 + 1)) x102000 x102001) else (none)) else (impl_ShareWaits.l0 k x5 x6 x21 x22 (wrap64 (x23 + 1)) x102000 x102001))) else (none)) else (none))) else (none)) else (none)) else (some x6)
end
def impl_ShareWaits.f (k : Nat) (l0_0 : List ByteArray) (l0_1 : List (S56)) (a1 : ByteArray) : Option (List ByteArray) := (impl_ShareBook_at.f l0_0 l0_1 a1).bind fun t102 => ((impl_ShareBookOk.f k l0_0 l0_1).bind fun t103 => (if t103 = true then (impl_ShareWaits.j0 k t102 (decide (t102 < 0)) l0_0 l0_1) else (impl_ShareWaits.j0 k t102 true l0_0 l0_1)))
def impl_ShareWaits.T8 : Bool × List (List Nat × List Nat) := (true, [([], []), ([], []), ([0, 1], [0, 1]), ([2], [2]), ([3], [3]), ([4, 3], [3, 4]), ([3], [3]), ([6, 3], [3, 6]), ([3], [3]), ([7, 8, 3], [3, 7, 8]), ([9, 3], [3, 9]), ([10, 3], [3, 10]), ([5, 11, 3, 3], [3, 5, 11]), ([3, 12], [3, 12])])
def impl_ShareWaits.B8 : List Nat := [0, 0, 3, 7, 15, 31, 15, 79, 15, 463, 975, 1999, 4095, 8191]
theorem impl_ShareWaits.tab8 : rtab .any (opsOf Try.f38 8) = impl_ShareWaits.T8 := by kernel_rfl
theorem impl_ShareWaits.bits8 : waitsOk impl_ShareWaits.T8.2 impl_ShareWaits.B8 = true := by kernel_rfl
set_option maxHeartbeats 8000000 in
set_option maxRecDepth 100000 in
theorem impl_ShareWaits.calls (k : Nat) (A0_0 : Option Addr) (c0_0 : Nat) (l0_0 : List ByteArray) (A0_1 : Option Addr) (c0_1 : Nat) (l0_1 : List (S56)) (a1 : ByteArray) (r : List ByteArray) (w : World) (hr0_0 : Kd.C Kd.string w A0_0 l0_0.length l0_0) (hc0_0 : l0_0.length ≤ c0_0) (hr0_1 : Kd.C k56 w A0_1 l0_1.length l0_1) (hc0_1 : l0_1.length ≤ c0_1) (h : impl_ShareWaits.f k l0_0 l0_1 a1 = some r) :
  Calls Try.prog 38 #[.agg #[.slice A0_0 l0_0.length c0_0, .slice A0_1 l0_1.length c0_1], .string a1] w fun e w' => ∃ v0_ : Value, e = .returned (v0_) ∧ Kd.R Kd.string 9 w' w.heap.size (fun _ => True) v0_ r ∧ Below w.heap.size w w' := by
 have hu31 := Try.underlying31
 have hu56 := Try.underlying56
 have HR0_0 := Aside0.mk hr0_0
 have HC0_0 := Aside0.mk hc0_0
 clear hr0_0 hc0_0
 have HR0_1 := Aside0.mk hr0_1
 have HC0_1 := Aside0.mk hc0_1
 clear hr0_1 hc0_1
 have HB := Aside0.mk (Below.refl w.heap.size w)
 have H : ((impl_ShareBook_at.f l0_0 l0_1 a1).bind fun t102 => ((impl_ShareBookOk.f k l0_0 l0_1).bind fun t103 => (if t103 = true then (impl_ShareWaits.j0 k t102 (decide (t102 < 0)) l0_0 l0_1) else (impl_ShareWaits.j0 k t102 true l0_0 l0_1)))) = some r := h
 clear h
 replace H := Option.bind_eq_some_iff.mp H
 obtain ⟨t102, A30, H⟩ := H
 replace H : ((impl_ShareBookOk.f k l0_0 l0_1).bind fun t103 => (if t103 = true then (impl_ShareWaits.j0 k t102 (decide (t102 < 0)) l0_0 l0_1) else (impl_ShareWaits.j0 k t102 true l0_0 l0_1))) = some r := H
 have A3 := Aside0.mk A30
 clear A30
 have HC4 := Aside0.mk H
 clear H
 go_enter Try.func38, Try.ntmps38
 go_upto_region 2 with (first | ((with_reducible refine gate_dst (N := 2) rfl ?_); refine box_event ?hg (N := 2) ?hd (cs := #[.slice A0_0 l0_0.length c0_0, .slice A0_1 l0_1.length c0_1]) (t := 31) ?hr ?_; (case hd => rfl); (case hg => rfl); (case hr => first | (go_simp; done) | (go_simp; rfl)); intro gb101 hg w5 hbox hb; have n0_ := Aside0.mk (below_step (pY39) hb); have n1_ := Aside0.mk (hbox); have n2_ := Aside0.mk ((pY36 : w.heap.size ≤ gb101)); have n3_ := Aside0.mk ((pY36 : w.heap.size ≤ gb101)); clear HB; have HB := n0_; have BK101 := n1_; have GW101 := n2_; have GE101 := n3_; clear n0_ n1_ n2_ n3_; clear hb hbox hg; have hcz6_0 : w5.cell? ⟨gb101, 0, none⟩ = some (.slice A0_0 l0_0.length c0_0) := (blk_cell BK101.out 0).trans rfl; have hcz6_1 : w5.cell? ⟨gb101, 1, none⟩ = some (.slice A0_1 l0_1.length c0_1) := (blk_cell BK101.out 1).trans rfl; have hfz6_0 := blk_frozen BK101.out 0; have hfz6_1 := blk_frozen BK101.out 1) | ((with_reducible refine gate_callee (f := 84) rfl ?_); refine goesL_ (some 11) rfl rfl Try.func84 (by kernel_rfl) rfl #[.agg #[.slice A0_0 l0_0.length c0_0, .slice A0_1 l0_1.length c0_1], .string a1] rfl (pY38) ?_; (with_reducible refine (impl_ShareBook_at.calls _ _ l0_0 _ _ l0_1 a1 t102 _ ?side1 ?side2 ?side3 ?side4 A3.out).mono ?_); (case side1 => exact pC (Kd.C_below HR0_0.out HB.out)); (case side2 => exact HC0_0.out); (case side3 => exact pC (Kd.C_below HR0_1.out HB.out)); (case side4 => exact HC0_1.out); rintro e w7 ⟨rfl, hb⟩; refine ⟨_, rfl, ?_⟩; have n0_ := Aside0.mk (blk_below (g := gb101) (o := .cells #[.slice A0_0 l0_0.length c0_0, .slice A0_1 l0_1.length c0_1] 31 (0, 0)) (pY40) hb); have n1_ := Aside0.mk (below_step (pY37) hb); clear BK101; clear HB; have BK101 := n0_; have HB := n1_; clear n0_ n1_; (try clear hb); (try clear hb2); (try clear hk); (try clear hi)))
 (try simp only [Act.put, List.setIfInBounds_toArray, List.set_cons_zero, List.set_cons_succ])
 go_cut [18] (fun v18 wc => ∃ (kq : Nat) (x18_3 : Bool), v18 = .bool x18_3 ∧ Aside0 (impl_ShareWaits.j0 kq t102 x18_3 l0_0 l0_1 = some r) ∧ Aside0 (kq ≤ k) ∧ Aside0 (wc.heap[gb101]? = some (.cells #[(.slice A0_0 l0_0.length c0_0), (.slice A0_1 l0_1.length c0_1)] 31 (0, 0))) ∧ Aside0 (Below w.heap.size w wc))
 case first =>
  have H := HC4.out
  clear HC4
  replace H := Option.bind_eq_some_iff.mp H
  obtain ⟨t103, A80, H⟩ := H
  replace H : (if t103 = true then (impl_ShareWaits.j0 k t102 (decide (t102 < 0)) l0_0 l0_1) else (impl_ShareWaits.j0 k t102 true l0_0 l0_1)) = some r := H
  have A8 := Aside0.mk A80
  clear A80
  by_cases c9 : t103 = true
  ·subst c9
   have H1 : (impl_ShareWaits.j0 k t102 (decide (t102 < 0)) l0_0 l0_1) = some r := by rw [if_pos rfl] at H; exact H
   clear H
   have H := H1
   clear H1
   have H' := Aside0.mk H
   clear H
   have hcz10_0 : w7.cell? ⟨gb101, 0, none⟩ = some (.slice A0_0 l0_0.length c0_0) := (blk_cell BK101.out 0).trans rfl
   have hcz10_1 : w7.cell? ⟨gb101, 1, none⟩ = some (.slice A0_1 l0_1.length c0_1) := (blk_cell BK101.out 1).trans rfl
   have hfz10_0 := blk_frozen BK101.out 0
   have hfz10_1 := blk_frozen BK101.out 1
   go_wp2_with (first | ((with_reducible refine gate_callee (f := 24) rfl ?_); refine goesL_ (some 13) rfl rfl Try.func24 (by kernel_rfl) rfl #[.agg #[.slice A0_0 l0_0.length c0_0, .slice A0_1 l0_1.length c0_1]] rfl (pY38) ?_; (with_reducible refine (impl_ShareBookOk.calls k _ _ l0_0 _ _ l0_1 true _ ?side1 ?side2 ?side3 ?side4 A8.out).mono ?_); (case side1 => exact pC (Kd.C_below HR0_0.out HB.out)); (case side2 => exact HC0_0.out); (case side3 => exact pC (Kd.C_below HR0_1.out HB.out)); (case side4 => exact HC0_1.out); rintro e w11 ⟨rfl, hb⟩; refine ⟨_, rfl, ?_⟩; have n0_ := Aside0.mk (blk_below (g := gb101) (o := .cells #[.slice A0_0 l0_0.length c0_0, .slice A0_1 l0_1.length c0_1] 31 (0, 0)) (pY40) hb); have n1_ := Aside0.mk (below_step (pY37) hb); clear BK101; clear HB; have BK101 := n0_; have HB := n1_; clear n0_ n1_; (try clear hb); (try clear hb2); (try clear hk); (try clear hi)))
   go_meet
   case rel => exact ⟨_, (decide (t102 < 0)), (pY59), H', ⟨by first | omega | exact Nat.le_refl _⟩, ⟨by (with_reducible repeat (first | refine blk_drewN ?_ _ | refine blk_drew ?_ | refine blk_alloc ?_ _)); exact BK101.out⟩, ⟨pY37⟩⟩
  ·replace c9 := Bool.eq_false_iff.mpr c9
   subst c9
   have H1 : (impl_ShareWaits.j0 k t102 true l0_0 l0_1) = some r := by rw [if_neg (show ¬ (false = true) by decide)] at H; exact H
   clear H
   have H := H1
   clear H1
   have H' := Aside0.mk H
   clear H
   have hcz12_0 : w7.cell? ⟨gb101, 0, none⟩ = some (.slice A0_0 l0_0.length c0_0) := (blk_cell BK101.out 0).trans rfl
   have hcz12_1 : w7.cell? ⟨gb101, 1, none⟩ = some (.slice A0_1 l0_1.length c0_1) := (blk_cell BK101.out 1).trans rfl
   have hfz12_0 := blk_frozen BK101.out 0
   have hfz12_1 := blk_frozen BK101.out 1
   go_wp2_with (first | ((with_reducible refine gate_callee (f := 24) rfl ?_); refine goesL_ (some 13) rfl rfl Try.func24 (by kernel_rfl) rfl #[.agg #[.slice A0_0 l0_0.length c0_0, .slice A0_1 l0_1.length c0_1]] rfl (pY38) ?_; (with_reducible refine (impl_ShareBookOk.calls k _ _ l0_0 _ _ l0_1 false _ ?side1 ?side2 ?side3 ?side4 A8.out).mono ?_); (case side1 => exact pC (Kd.C_below HR0_0.out HB.out)); (case side2 => exact HC0_0.out); (case side3 => exact pC (Kd.C_below HR0_1.out HB.out)); (case side4 => exact HC0_1.out); rintro e w13 ⟨rfl, hb⟩; refine ⟨_, rfl, ?_⟩; have n0_ := Aside0.mk (blk_below (g := gb101) (o := .cells #[.slice A0_0 l0_0.length c0_0, .slice A0_1 l0_1.length c0_1] 31 (0, 0)) (pY40) hb); have n1_ := Aside0.mk (below_step (pY37) hb); clear BK101; clear HB; have BK101 := n0_; have HB := n1_; clear n0_ n1_; (try clear hb); (try clear hb2); (try clear hk); (try clear hi)))
   go_meet
   case rel => exact ⟨_, (true), (pY59), H', ⟨by first | omega | exact Nat.le_refl _⟩, ⟨by (with_reducible repeat (first | refine blk_drewN ?_ _ | refine blk_drew ?_ | refine blk_alloc ?_ _)); exact BK101.out⟩, ⟨pY37⟩⟩
 case rest =>
  clear HC4
  try clear c2
  try clear p2
  try clear c3
  try clear c8
  try clear c9
  try clear hcz10_0
  try clear hcz10_1
  try clear hcz12_0
  try clear hcz12_1
  try clear hcz6_0
  try clear hcz6_1
  try clear hfz10_0
  try clear hfz10_1
  try clear hfz12_0
  try clear hfz12_1
  try clear hfz6_0
  try clear hfz6_1
  obtain ⟨kq, x18_3, rfl, HA, HJ3, BK101, HB⟩ := hcut
  cases kq with
  | zero => exact absurd HA.out (by simp [impl_ShareWaits.j0])
  | succ kj3 =>
   have H := HA.out
   clear HA
   simp only [impl_ShareWaits.j0] at H
   by_cases c14 : x18_3 = true
   ·subst c14
    have H1 : (some ([] : List ByteArray)) = some r := by rw [if_pos rfl] at H; exact H
    clear H
    have H := H1
    clear H1
    obtain rfl := Option.some.inj H
    go_wp2
    go_ret
    exact ⟨_, by first | rfl | (simp [errW_none, errW_some] <;> rfl) | (simp [*, errW_none, errW_some] <;> rfl), by first | exact Kd.R_nil _ _ _ _ _ | exact Kd.N_nil _ _ _ _ _ | exact Kd.V_nil _ _ _ _ _ | exact Kd.Q_nil _ _ _ _ _ | exact Kd.S_nil _ _ _ _ _, pY37⟩
   ·replace c14 := Bool.eq_false_iff.mpr c14
    subst c14
    have H1 : (impl_ShareWaits.l0 kj3 t102 (([] : List ByteArray)) l0_1 (l0_1.length : Int) 0 l0_0 l0_1) = some r := by rw [if_neg (show ¬ (false = true) by decide)] at H; exact H
    clear H
    have H := H1
    clear H1
    obtain ⟨y104, hy104⟩ : ∃ y_ : List ByteArray, y_ = (([] : List ByteArray)) := ⟨_, rfl⟩
    replace H : (impl_ShareWaits.l0 kj3 t102 y104 l0_1 (l0_1.length : Int) 0 l0_0 l0_1) = some r := by first | (rw [hy104]; with_reducible exact H) | (have H2_ := (Option.bind_some _ _).symm.trans H; rw [hy104]; with_reducible exact H2_) | (have H2_ := (Option.bind_some _ _).symm.trans H; with_reducible exact H2_) | with_reducible exact H | (rw [hy104]; exact H) | exact H
    have Ny104 := Aside0.mk hy104
    clear hy104
    have H' := Aside0.mk H
    clear H
    go_wp2_with (first | ((with_reducible refine gate_dst (N := 19) rfl ?_); refine Kd.R_lit Kd.string _ 9 ?hg (N := 19) ?hd (xs := ([] : List ByteArray)) (inner := []) (ok := fun _ => True) (okp := fun _ => True) ?hr ?hp (fun _ hk => hk) trivial (Below.refl _ _) (Nat.le_refl _) (by simp) ?_; (case hd => rfl); (case hg => rfl); (case hr => first | (go_simp; done) | (go_simp; rfl)); (case hp => exact (Reps.none _ _)); intro v105 w15 ho16 hb hg_ hnew_; clear hg_ hnew_; (first | rw [← Ny104.out] at ho16 | (simp only [Int.reduceToNat] at ho16; rw [← Ny104.out] at ho16)); have n0_ := Aside0.mk (Kd.R_lower ho16 (below_size (pY37))); have n1_ := Aside0.mk (blk_below (g := gb101) (o := .cells #[.slice A0_0 l0_0.length c0_0, .slice A0_1 l0_1.length c0_1] 31 (0, 0)) (pY40) hb); have n2_ := Aside0.mk (below_step (pY37) hb); clear BK101; clear HB; have HO106 := n0_; have BK101 := n1_; have HB := n2_; clear n0_ n1_ n2_; clear hb ho16; have hcz17_0 : w15.cell? ⟨gb101, 0, none⟩ = some (.slice A0_0 l0_0.length c0_0) := (blk_cell BK101.out 0).trans rfl; have hcz17_1 : w15.cell? ⟨gb101, 1, none⟩ = some (.slice A0_1 l0_1.length c0_1) := (blk_cell BK101.out 1).trans rfl; have hfz17_0 := blk_frozen BK101.out 0; have hfz17_1 := blk_frozen BK101.out 1))
    go_loopg [6, 23] kj3 (fun kq v6 v23 w' => ∃ (x6_2 : List ByteArray) (x23_2 : Int), v23 = .int .i64 x23_2 ∧ Aside0 (impl_ShareWaits.l0 kq t102 x6_2 l0_1 (l0_1.length : Int) x23_2 l0_0 l0_1 = some r) ∧ Aside0 (kq ≤ kj3) ∧ Aside0 (Kd.R Kd.string 9 w' w.heap.size (fun _ => True) v6 x6_2) ∧ Aside0 (w'.heap[gb101]? = some (.cells #[(.slice A0_0 l0_0.length c0_0), (.slice A0_1 l0_1.length c0_1)] 31 (0, 0))) ∧ Aside0 (Below w.heap.size w w'))
    case atStart => exact ⟨(y104), (0), (pY59), H', ⟨Nat.le_refl _⟩, ⟨by (with_reducible repeat (first | apply Kd.R_alloc | apply Kd.R_drewN | apply Kd.R_drew)); exact HO106.out⟩, ⟨by (with_reducible repeat (first | refine blk_drewN ?_ _ | refine blk_drew ?_ | refine blk_alloc ?_ _)); exact BK101.out⟩, ⟨pY37⟩⟩
    case round =>
     clear H'
     try clear c1
     try clear c2
     try clear p2
     try clear c3
     try clear c8
     try clear c9
     try clear c14
     try clear hcz10_0
     try clear hcz10_1
     try clear hcz12_0
     try clear hcz12_1
     try clear hcz17_0
     try clear hcz17_1
     try clear hcz6_0
     try clear hcz6_1
     try clear hfz10_0
     try clear hfz10_1
     try clear hfz12_0
     try clear hfz12_1
     try clear hfz17_0
     try clear hfz17_1
     try clear hfz6_0
     try clear hfz6_1
     try clear p2
     obtain ⟨x6_2, x23_2, rfl, HA, HK2, HO_6, BK101, HB⟩ := hrel
     cases gk with
     | zero => exact absurd HA.out (by simp [impl_ShareWaits.l0])
     | succ k2 =>
      have H := HA.out
      clear HA
      simp only [impl_ShareWaits.l0] at H
      by_cases c18 : x23_2 < (l0_1.length : Int)
      ·rw [if_pos c18] at H
       have c18b0 : decide (x23_2 < (l0_1.length : Int)) = true := decide_eq_true c18
       clear c18
       by_cases c19 : 0 ≤ x23_2
       ·rw [if_pos c19] at H
        have c19b0 : decide (0 ≤ x23_2) = true := decide_eq_true c19
        clear c19
        by_cases c20 : x23_2 < (l0_1.length : Int)
        ·rw [if_pos c20] at H
         have c20b0 : decide (x23_2 < (l0_1.length : Int)) = true := decide_eq_true c20
         clear c20
         by_cases c21 : x23_2 = t102
         ·rw [if_pos c21] at H
          have c21b0 : (x23_2 == t102) = true := beq_iff_eq.mpr c21
          have c21b1 : (x23_2 != t102) = false := bne_eq_false_iff_eq.mpr c21
          clear c21
          have H' := Aside0.mk H
          clear H
          have p107 : 0 ≤ (x23_2 : Int) := of_decide_eq_true (pY58)
          have q107 : x23_2 < (l0_1.length : Int) := of_decide_eq_true (pY58)
          obtain ⟨ad107, A107_1, c107_1, A107_2, c107_2, e107, hx107_0, hx107_1, hx107_2, hl107_1, hi107_1, hl107_2, hi107_2⟩ := at_T56 HR0_1.out x23_2 p107 q107
          cases e107
          replace hx107_0 := (HB.out.cell (World.block_lt_of_cell? w _ hx107_0)).trans hx107_0
          replace hx107_1 := (HB.out.cell (World.block_lt_of_cell? w _ hx107_1)).trans hx107_1
          replace hx107_2 := (HB.out.cell (World.block_lt_of_cell? w _ hx107_2)).trans hx107_2
          have HR107_1 := Aside0.mk hi107_1
          have HC107_1 := Aside0.mk hl107_1
          clear hi107_1 hl107_1
          have HR107_2 := Aside0.mk hi107_2
          have HC107_2 := Aside0.mk hl107_2
          clear hi107_2 hl107_2
          replace p107 := eq_true p107
          replace q107 := eq_true q107
          try go_wp2_with (first | ((with_reducible refine gate_dst (N := 8) rfl ?_); refine box_event ?hg (N := 8) ?hd (cs := #[.string (⟨#[]⟩ : ByteArray), .slice none 0 0, .slice none 0 0]) (t := 56) ?hr ?_; (case hd => rfl); (case hg => rfl); (case hr => first | (go_simp; done) | (go_simp; rfl)); intro gb108 hg w22 hbox hb; have n0_ := Aside0.mk (Kd.R_below (pY54) hb); have n1_ := Aside0.mk (blk_below (g := gb101) (o := .cells #[.slice A0_0 l0_0.length c0_0, .slice (some ad107) l0_1.length c0_1] 31 (0, 0)) (pY40) hb); have n2_ := Aside0.mk (below_step (pY37) hb); have n3_ := Aside0.mk (hbox); have n4_ := Aside0.mk ((pY27 : w.heap.size ≤ gb108)); have n5_ := Aside0.mk ((pY27 : w.heap.size ≤ gb108)); have n6_ := Aside0.mk ((by rw [hg]; exact Nat.ne_of_lt (blk_lt (g := gb101) (o := .cells #[.slice A0_0 l0_0.length c0_0, .slice (some ad107) l0_1.length c0_1] 31 (0, 0)) (pY40)) : gb101 ≠ gb108)); have n7_ := Aside0.mk ((by rw [hg]; exact Nat.ne_of_gt (blk_lt (g := gb101) (o := .cells #[.slice A0_0 l0_0.length c0_0, .slice (some ad107) l0_1.length c0_1] 31 (0, 0)) (pY40)) : gb108 ≠ gb101)); clear HO_6; clear BK101; clear HB; have HO_6 := n0_; have BK101 := n1_; have HB := n2_; have BK108 := n3_; have GW108 := n4_; have GE108 := n5_; have NB101_108 := n6_; have NB108_101 := n7_; clear n0_ n1_ n2_ n3_ n4_ n5_ n6_ n7_; clear hb hbox hg; have hnb23 := NB108_101.out; have hnc23 := NB101_108.out; have hcz24_0 : w22.cell? ⟨gb108, 0, none⟩ = some (.string (⟨#[]⟩ : ByteArray)) := (blk_cell BK108.out 0).trans rfl; have hcz24_1 : w22.cell? ⟨gb108, 1, none⟩ = some (.slice none 0 0) := (blk_cell BK108.out 1).trans rfl; have hcz24_2 : w22.cell? ⟨gb108, 2, none⟩ = some (.slice none 0 0) := (blk_cell BK108.out 2).trans rfl; have hfz24_0 := blk_frozen BK108.out 0; have hfz24_1 := blk_frozen BK108.out 1; have hfz24_2 := blk_frozen BK108.out 2))
          have n0_ : Aside0 (Kd.R Kd.string 9 (((w22.setCell ⟨gb108, 0, none⟩ (.string ((rd_T56 l0_1 x23_2).f0))).setCell ⟨gb108, 1, none⟩ (.slice A107_1 ((rd_T56 l0_1 x23_2).f1).length c107_1)).setCell ⟨gb108, 2, none⟩ (.slice A107_2 ((rd_T56 l0_1 x23_2).f2).length c107_2)) w.heap.size (fun _ => True) u6 x6_2) := ⟨by (with_reducible repeat (first | apply Kd.R_alloc | apply Kd.R_drewN | apply Kd.R_drew)); exact Kd.R_mono (Kd.R_far (p := ⟨gb108, 2, none⟩) (Kd.R_far (p := ⟨gb108, 1, none⟩) (Kd.R_far (p := ⟨gb108, 0, none⟩) (Kd.R_types HO_6.out BK108.out (by decide)) (fun _ hk => hk.2) (.string ((rd_T56 l0_1 x23_2).f0))) (fun _ hk => hk.2) (.slice A107_1 ((rd_T56 l0_1 x23_2).f1).length c107_1)) (fun _ hk => hk.2) (.slice A107_2 ((rd_T56 l0_1 x23_2).f2).length c107_2)) (fun _ hk => trivial)⟩
          have n1_ : Aside0 ((((w22.setCell ⟨gb108, 0, none⟩ (.string ((rd_T56 l0_1 x23_2).f0))).setCell ⟨gb108, 1, none⟩ (.slice A107_1 ((rd_T56 l0_1 x23_2).f1).length c107_1)).setCell ⟨gb108, 2, none⟩ (.slice A107_2 ((rd_T56 l0_1 x23_2).f2).length c107_2)).heap[gb101]? = some (.cells #[.slice A0_0 l0_0.length c0_0, .slice (some ad107) l0_1.length c0_1] 31 (0, 0))) := ⟨by (with_reducible repeat (first | refine blk_drewN ?_ _ | refine blk_drew ?_ | refine blk_alloc ?_ _)); refine blk_far ?_ NB101_108.out _; (with_reducible repeat (first | refine blk_drewN ?_ _ | refine blk_drew ?_ | refine blk_alloc ?_ _)); refine blk_far ?_ NB101_108.out _; (with_reducible repeat (first | refine blk_drewN ?_ _ | refine blk_drew ?_ | refine blk_alloc ?_ _)); refine blk_far ?_ NB101_108.out _; (with_reducible repeat (first | refine blk_drewN ?_ _ | refine blk_drew ?_ | refine blk_alloc ?_ _)); exact BK101.out⟩
          have n2_ : Aside0 ((((w22.setCell ⟨gb108, 0, none⟩ (.string ((rd_T56 l0_1 x23_2).f0))).setCell ⟨gb108, 1, none⟩ (.slice A107_1 ((rd_T56 l0_1 x23_2).f1).length c107_1)).setCell ⟨gb108, 2, none⟩ (.slice A107_2 ((rd_T56 l0_1 x23_2).f2).length c107_2)).heap[gb108]? = some (.cells #[.string ((rd_T56 l0_1 x23_2).f0), .slice A107_1 ((rd_T56 l0_1 x23_2).f1).length c107_1, .slice A107_2 ((rd_T56 l0_1 x23_2).f2).length c107_2] 56 (0, 0))) := ⟨by (with_reducible repeat (first | refine blk_drewN ?_ _ | refine blk_drew ?_ | refine blk_alloc ?_ _)); refine blk_put (cs := #[.string ((rd_T56 l0_1 x23_2).f0), .slice A107_1 ((rd_T56 l0_1 x23_2).f1).length c107_1, .slice none 0 0]) ?_ 2 _ rfl; (with_reducible repeat (first | refine blk_drewN ?_ _ | refine blk_drew ?_ | refine blk_alloc ?_ _)); refine blk_put (cs := #[.string ((rd_T56 l0_1 x23_2).f0), .slice none 0 0, .slice none 0 0]) ?_ 1 _ rfl; (with_reducible repeat (first | refine blk_drewN ?_ _ | refine blk_drew ?_ | refine blk_alloc ?_ _)); refine blk_put (cs := #[.string (⟨#[]⟩ : ByteArray), .slice none 0 0, .slice none 0 0]) ?_ 0 _ rfl; (with_reducible repeat (first | refine blk_drewN ?_ _ | refine blk_drew ?_ | refine blk_alloc ?_ _)); exact BK108.out⟩
          have n3_ : Aside0 (Below w.heap.size w (((w22.setCell ⟨gb108, 0, none⟩ (.string ((rd_T56 l0_1 x23_2).f0))).setCell ⟨gb108, 1, none⟩ (.slice A107_1 ((rd_T56 l0_1 x23_2).f1).length c107_1)).setCell ⟨gb108, 2, none⟩ (.slice A107_2 ((rd_T56 l0_1 x23_2).f2).length c107_2))) := ⟨pY33⟩
          (try clear HO_6)
          (try clear BK101)
          (try clear BK108)
          (try clear HB)
          generalize (((w22.setCell ⟨gb108, 0, none⟩ (.string ((rd_T56 l0_1 x23_2).f0))).setCell ⟨gb108, 1, none⟩ (.slice A107_1 ((rd_T56 l0_1 x23_2).f1).length c107_1)).setCell ⟨gb108, 2, none⟩ (.slice A107_2 ((rd_T56 l0_1 x23_2).f2).length c107_2)) = w25 at n0_ n1_ n2_ n3_ ⊢
          have HO_6 := n0_
          have BK101 := n1_
          have BK108 := n2_
          have HB := n3_
          clear n0_ n1_ n2_ n3_
          have n0_ := Aside0.mk (Kd.R_drew HO_6.out)
          have n1_ := Aside0.mk (blk_drew BK101.out)
          have n2_ := Aside0.mk (blk_drew BK108.out)
          have n3_ := Aside0.mk (below_drew1 HB.out)
          clear HO_6
          clear BK101
          clear BK108
          clear HB
          have HO_6 := n0_
          have BK101 := n1_
          have BK108 := n2_
          have HB := n3_
          clear n0_ n1_ n2_ n3_
          refine start_ (n := 14) (S := fun w' => True) (ds := []) #[ff,ff,ff,ff,ff,ff,ff,ff,ff,ff,ff,ff,ff,ff] (by kernel_rfl) rfl rfl trivial (fun hHeld => ?_); refine with_tabW impl_ShareWaits.tab8 impl_ShareWaits.bits8 (fun HT_ HW_ => ?_)
          generalize w25.drew = w26 at HO_6 BK101 BK108 HB hHeld ⊢
          refine pU (i := 0) (N := some 28) #[tt,ff,ff,ff,ff,ff,ff,ff,ff,ff,ff,ff,ff,ff] ?_
          refine pU (i := 1) (N := some 29) #[tt,tt,ff,ff,ff,ff,ff,ff,ff,ff,ff,ff,ff,ff] ?_
          refine pU (i := 2) (N := some 30) #[tt,tt,tt,ff,ff,ff,ff,ff,ff,ff,ff,ff,ff,ff] ?_
          refine pU (i := 3) (N := some 31) #[tt,tt,tt,tt,ff,ff,ff,ff,ff,ff,ff,ff,ff,ff] ?_
          refine pV (i := 4) (N := some 32) #[tt,tt,tt,tt,tt,ff,ff,ff,ff,ff,ff,ff,ff,ff] ?_
          refine pV (i := 5) (N := some 33) #[tt,tt,tt,tt,tt,tt,ff,ff,ff,ff,ff,ff,ff,ff] ?_
          refine pV (i := 6) (N := some 34) #[tt,tt,tt,tt,tt,tt,tt,ff,ff,ff,ff,ff,ff,ff] ?_
          refine pV (i := 7) (N := some 35) #[tt,tt,tt,tt,tt,tt,tt,tt,ff,ff,ff,ff,ff,ff] ?_
          refine pV (i := 8) (N := some 36) #[tt,tt,tt,tt,tt,tt,tt,tt,tt,ff,ff,ff,ff,ff] ?_
          refine pV (i := 9) (N := some 37) #[tt,tt,tt,tt,tt,tt,tt,tt,tt,tt,ff,ff,ff,ff] ?_
          refine pV (i := 10) (N := some 38) #[tt,tt,tt,tt,tt,tt,tt,tt,tt,tt,tt,ff,ff,ff] ?_
          refine pV (i := 11) (N := some 39) #[tt,tt,tt,tt,tt,tt,tt,tt,tt,tt,tt,tt,ff,ff] ?_
          refine pV (i := 12) (N := some 40) #[tt,tt,tt,tt,tt,tt,tt,tt,tt,tt,tt,tt,tt,ff] ?_
          refine pU (i := 13) (N := some 41) #[tt,tt,tt,tt,tt,tt,tt,tt,tt,tt,tt,tt,tt,tt] ?_
          refine done_ (done_of HT_.out (by kernel_rfl)) ?_
          try go_wp2
          go_roundg k2
          case measure => have := HJ3.out; have := HK2.out; omega
          case rel => exact ⟨(x6_2), (wrap64 (x23_2 + 1)), (pY59), H', ⟨by have := HJ3.out; have := HK2.out; omega⟩, ⟨by (with_reducible repeat (first | apply Kd.R_alloc | apply Kd.R_drewN | apply Kd.R_drew)); exact HO_6.out⟩, ⟨by (with_reducible repeat (first | refine blk_drewN ?_ _ | refine blk_drew ?_ | refine blk_alloc ?_ _)); exact BK101.out⟩, ⟨pY33⟩⟩
         ·rw [if_neg c21] at H
          have c21b0 : (x23_2 == t102) = false := beq_eq_false_iff_ne.mpr c21
          have c21b1 : (x23_2 != t102) = true := bne_iff_ne.mpr c21
          by_cases c27 : 0 ≤ t102
          ·rw [if_pos c27] at H
           have c27b0 : decide (0 ≤ t102) = true := decide_eq_true c27
           clear c27
           by_cases c28 : t102 < (l0_1.length : Int)
           ·rw [if_pos c28] at H
            have c28b0 : decide (t102 < (l0_1.length : Int)) = true := decide_eq_true c28
            clear c28
            replace H := Option.bind_eq_some_iff.mp H
            obtain ⟨t110, A290, H⟩ := H
            replace H : (if t110 = true then (if x6_2.length < 8796093022208 then (impl_ShareWaits.l0 k2 t102 (x6_2 ++ [(rd_T56 l0_1 x23_2).f0]) l0_1 (l0_1.length : Int) (wrap64 (x23_2 + 1)) l0_0 l0_1) else (none)) else (impl_ShareWaits.l0 k2 t102 x6_2 l0_1 (l0_1.length : Int) (wrap64 (x23_2 + 1)) l0_0 l0_1)) = some r := H
            have A29 := Aside0.mk A290
            clear A290
            by_cases c30 : t110 = true
            ·subst c30
             have H1 : (if x6_2.length < 8796093022208 then (impl_ShareWaits.l0 k2 t102 (x6_2 ++ [(rd_T56 l0_1 x23_2).f0]) l0_1 (l0_1.length : Int) (wrap64 (x23_2 + 1)) l0_0 l0_1) else (none)) = some r := by rw [if_pos rfl] at H; exact H
             clear H
             have H := H1
             clear H1
             by_cases c31 : x6_2.length < 8796093022208
             ·rw [if_pos c31] at H
              have LMc31 := Aside0.mk c31
              clear c31
              obtain ⟨y111, hy111⟩ : ∃ y_ : List ByteArray, y_ = (x6_2 ++ [(rd_T56 l0_1 x23_2).f0]) := ⟨_, rfl⟩
              replace H : (impl_ShareWaits.l0 k2 t102 y111 l0_1 (l0_1.length : Int) (wrap64 (x23_2 + 1)) l0_0 l0_1) = some r := by first | (rw [hy111]; with_reducible exact H) | (have H2_ := (Option.bind_some _ _).symm.trans H; rw [hy111]; with_reducible exact H2_) | (have H2_ := (Option.bind_some _ _).symm.trans H; with_reducible exact H2_) | with_reducible exact H | (rw [hy111]; exact H) | exact H
              have Ny111 := Aside0.mk hy111
              clear hy111
              have H' := Aside0.mk H
              clear H
              have p107 : 0 ≤ (x23_2 : Int) := of_decide_eq_true (pY58)
              have q107 : x23_2 < (l0_1.length : Int) := of_decide_eq_true (pY58)
              obtain ⟨ad107, A107_1, c107_1, A107_2, c107_2, e107, hx107_0, hx107_1, hx107_2, hl107_1, hi107_1, hl107_2, hi107_2⟩ := at_T56 HR0_1.out x23_2 p107 q107
              cases e107
              replace hx107_0 := (HB.out.cell (World.block_lt_of_cell? w _ hx107_0)).trans hx107_0
              replace hx107_1 := (HB.out.cell (World.block_lt_of_cell? w _ hx107_1)).trans hx107_1
              replace hx107_2 := (HB.out.cell (World.block_lt_of_cell? w _ hx107_2)).trans hx107_2
              have HR107_1 := Aside0.mk hi107_1
              have HC107_1 := Aside0.mk hl107_1
              clear hi107_1 hl107_1
              have HR107_2 := Aside0.mk hi107_2
              have HC107_2 := Aside0.mk hl107_2
              clear hi107_2 hl107_2
              replace p107 := eq_true p107
              replace q107 := eq_true q107
              try go_wp2_with (first | ((with_reducible refine gate_dst (N := 8) rfl ?_); refine box_event ?hg (N := 8) ?hd (cs := #[.string (⟨#[]⟩ : ByteArray), .slice none 0 0, .slice none 0 0]) (t := 56) ?hr ?_; (case hd => rfl); (case hg => rfl); (case hr => first | (go_simp; done) | (go_simp; rfl)); intro gb108 hg w32 hbox hb; have n0_ := Aside0.mk (Kd.R_below (pY54) hb); have n1_ := Aside0.mk (blk_below (g := gb101) (o := .cells #[.slice A0_0 l0_0.length c0_0, .slice (some ad107) l0_1.length c0_1] 31 (0, 0)) (pY40) hb); have n2_ := Aside0.mk (below_step (pY37) hb); have n3_ := Aside0.mk (hbox); have n4_ := Aside0.mk ((pY27 : w.heap.size ≤ gb108)); have n5_ := Aside0.mk ((pY27 : w.heap.size ≤ gb108)); have n6_ := Aside0.mk ((by rw [hg]; exact Nat.ne_of_lt (blk_lt (g := gb101) (o := .cells #[.slice A0_0 l0_0.length c0_0, .slice (some ad107) l0_1.length c0_1] 31 (0, 0)) (pY40)) : gb101 ≠ gb108)); have n7_ := Aside0.mk ((by rw [hg]; exact Nat.ne_of_gt (blk_lt (g := gb101) (o := .cells #[.slice A0_0 l0_0.length c0_0, .slice (some ad107) l0_1.length c0_1] 31 (0, 0)) (pY40)) : gb108 ≠ gb101)); clear HO_6; clear BK101; clear HB; have HO_6 := n0_; have BK101 := n1_; have HB := n2_; have BK108 := n3_; have GW108 := n4_; have GE108 := n5_; have NB101_108 := n6_; have NB108_101 := n7_; clear n0_ n1_ n2_ n3_ n4_ n5_ n6_ n7_; clear hb hbox hg; have hnb33 := NB108_101.out; have hnc33 := NB101_108.out; have hcz34_0 : w32.cell? ⟨gb108, 0, none⟩ = some (.string (⟨#[]⟩ : ByteArray)) := (blk_cell BK108.out 0).trans rfl; have hcz34_1 : w32.cell? ⟨gb108, 1, none⟩ = some (.slice none 0 0) := (blk_cell BK108.out 1).trans rfl; have hcz34_2 : w32.cell? ⟨gb108, 2, none⟩ = some (.slice none 0 0) := (blk_cell BK108.out 2).trans rfl; have hfz34_0 := blk_frozen BK108.out 0; have hfz34_1 := blk_frozen BK108.out 1; have hfz34_2 := blk_frozen BK108.out 2))
              have n0_ : Aside0 (Kd.R Kd.string 9 (((w32.setCell ⟨gb108, 0, none⟩ (.string ((rd_T56 l0_1 x23_2).f0))).setCell ⟨gb108, 1, none⟩ (.slice A107_1 ((rd_T56 l0_1 x23_2).f1).length c107_1)).setCell ⟨gb108, 2, none⟩ (.slice A107_2 ((rd_T56 l0_1 x23_2).f2).length c107_2)) w.heap.size (fun _ => True) u6 x6_2) := ⟨by (with_reducible repeat (first | apply Kd.R_alloc | apply Kd.R_drewN | apply Kd.R_drew)); exact Kd.R_mono (Kd.R_far (p := ⟨gb108, 2, none⟩) (Kd.R_far (p := ⟨gb108, 1, none⟩) (Kd.R_far (p := ⟨gb108, 0, none⟩) (Kd.R_types HO_6.out BK108.out (by decide)) (fun _ hk => hk.2) (.string ((rd_T56 l0_1 x23_2).f0))) (fun _ hk => hk.2) (.slice A107_1 ((rd_T56 l0_1 x23_2).f1).length c107_1)) (fun _ hk => hk.2) (.slice A107_2 ((rd_T56 l0_1 x23_2).f2).length c107_2)) (fun _ hk => trivial)⟩
              have n1_ : Aside0 ((((w32.setCell ⟨gb108, 0, none⟩ (.string ((rd_T56 l0_1 x23_2).f0))).setCell ⟨gb108, 1, none⟩ (.slice A107_1 ((rd_T56 l0_1 x23_2).f1).length c107_1)).setCell ⟨gb108, 2, none⟩ (.slice A107_2 ((rd_T56 l0_1 x23_2).f2).length c107_2)).heap[gb101]? = some (.cells #[.slice A0_0 l0_0.length c0_0, .slice (some ad107) l0_1.length c0_1] 31 (0, 0))) := ⟨by (with_reducible repeat (first | refine blk_drewN ?_ _ | refine blk_drew ?_ | refine blk_alloc ?_ _)); refine blk_far ?_ NB101_108.out _; (with_reducible repeat (first | refine blk_drewN ?_ _ | refine blk_drew ?_ | refine blk_alloc ?_ _)); refine blk_far ?_ NB101_108.out _; (with_reducible repeat (first | refine blk_drewN ?_ _ | refine blk_drew ?_ | refine blk_alloc ?_ _)); refine blk_far ?_ NB101_108.out _; (with_reducible repeat (first | refine blk_drewN ?_ _ | refine blk_drew ?_ | refine blk_alloc ?_ _)); exact BK101.out⟩
              have n2_ : Aside0 ((((w32.setCell ⟨gb108, 0, none⟩ (.string ((rd_T56 l0_1 x23_2).f0))).setCell ⟨gb108, 1, none⟩ (.slice A107_1 ((rd_T56 l0_1 x23_2).f1).length c107_1)).setCell ⟨gb108, 2, none⟩ (.slice A107_2 ((rd_T56 l0_1 x23_2).f2).length c107_2)).heap[gb108]? = some (.cells #[.string ((rd_T56 l0_1 x23_2).f0), .slice A107_1 ((rd_T56 l0_1 x23_2).f1).length c107_1, .slice A107_2 ((rd_T56 l0_1 x23_2).f2).length c107_2] 56 (0, 0))) := ⟨by (with_reducible repeat (first | refine blk_drewN ?_ _ | refine blk_drew ?_ | refine blk_alloc ?_ _)); refine blk_put (cs := #[.string ((rd_T56 l0_1 x23_2).f0), .slice A107_1 ((rd_T56 l0_1 x23_2).f1).length c107_1, .slice none 0 0]) ?_ 2 _ rfl; (with_reducible repeat (first | refine blk_drewN ?_ _ | refine blk_drew ?_ | refine blk_alloc ?_ _)); refine blk_put (cs := #[.string ((rd_T56 l0_1 x23_2).f0), .slice none 0 0, .slice none 0 0]) ?_ 1 _ rfl; (with_reducible repeat (first | refine blk_drewN ?_ _ | refine blk_drew ?_ | refine blk_alloc ?_ _)); refine blk_put (cs := #[.string (⟨#[]⟩ : ByteArray), .slice none 0 0, .slice none 0 0]) ?_ 0 _ rfl; (with_reducible repeat (first | refine blk_drewN ?_ _ | refine blk_drew ?_ | refine blk_alloc ?_ _)); exact BK108.out⟩
              have n3_ : Aside0 (Below w.heap.size w (((w32.setCell ⟨gb108, 0, none⟩ (.string ((rd_T56 l0_1 x23_2).f0))).setCell ⟨gb108, 1, none⟩ (.slice A107_1 ((rd_T56 l0_1 x23_2).f1).length c107_1)).setCell ⟨gb108, 2, none⟩ (.slice A107_2 ((rd_T56 l0_1 x23_2).f2).length c107_2))) := ⟨pY33⟩
              (try clear HO_6)
              (try clear BK101)
              (try clear BK108)
              (try clear HB)
              generalize (((w32.setCell ⟨gb108, 0, none⟩ (.string ((rd_T56 l0_1 x23_2).f0))).setCell ⟨gb108, 1, none⟩ (.slice A107_1 ((rd_T56 l0_1 x23_2).f1).length c107_1)).setCell ⟨gb108, 2, none⟩ (.slice A107_2 ((rd_T56 l0_1 x23_2).f2).length c107_2)) = w35 at n0_ n1_ n2_ n3_ ⊢
              have HO_6 := n0_
              have BK101 := n1_
              have BK108 := n2_
              have HB := n3_
              clear n0_ n1_ n2_ n3_
              have n0_ := Aside0.mk (Kd.R_drew HO_6.out)
              have n1_ := Aside0.mk (blk_drew BK101.out)
              have n2_ := Aside0.mk (blk_drew BK108.out)
              have n3_ := Aside0.mk (below_drew1 HB.out)
              clear HO_6
              clear BK101
              clear BK108
              clear HB
              have HO_6 := n0_
              have BK101 := n1_
              have BK108 := n2_
              have HB := n3_
              clear n0_ n1_ n2_ n3_
              have p109 : 0 ≤ (t102 : Int) := of_decide_eq_true (pY58)
              have q109 : t102 < (l0_1.length : Int) := of_decide_eq_true (pY58)
              obtain ⟨ad109, A109_1, c109_1, A109_2, c109_2, e109, hx109_0, hx109_1, hx109_2, hl109_1, hi109_1, hl109_2, hi109_2⟩ := at_T56 HR0_1.out t102 p109 q109
              have hw109_2 := hx109_2
              have hw109_1 := hx109_1
              have hw109_0 := hx109_0
              obtain rfl : ad107 = ad109 := (by injection e109)
              replace hx109_0 := (HB.out.cell (World.block_lt_of_cell? w _ hx109_0)).trans hx109_0
              replace hx109_1 := (HB.out.cell (World.block_lt_of_cell? w _ hx109_1)).trans hx109_1
              replace hx109_2 := (HB.out.cell (World.block_lt_of_cell? w _ hx109_2)).trans hx109_2
              have HR109_1 := Aside0.mk hi109_1
              have HC109_1 := Aside0.mk hl109_1
              clear hi109_1 hl109_1
              have HR109_2 := Aside0.mk hi109_2
              have HC109_2 := Aside0.mk hl109_2
              clear hi109_2 hl109_2
              replace p109 := eq_true p109
              replace q109 := eq_true q109
              refine start_ (n := 14) (S := fun w' => w'.cell? ⟨gb108, 0, none⟩ = some (.string ((rd_T56 l0_1 x23_2).f0)) ∧ w'.cell? ⟨gb108, 1, none⟩ = some (.slice A107_1 ((rd_T56 l0_1 x23_2).f1).length c107_1) ∧ w'.cell? ⟨gb108, 2, none⟩ = some (.slice A107_2 ((rd_T56 l0_1 x23_2).f2).length c107_2) ∧ w'.cell? ⟨gb101, 0, none⟩ = some (.slice A0_0 l0_0.length c0_0) ∧ w'.cell? ⟨gb101, 1, none⟩ = some (.slice (some ad107) l0_1.length c0_1) ∧ w'.cell? (ad107.add ((t102).toNat * 3)) = some (.string ((rd_T56 l0_1 t102).f0)) ∧ w'.cell? ⟨(ad107.add ((t102).toNat * 3)).block, (ad107.add ((t102).toNat * 3)).off + 1, none⟩ = some (.slice A109_1 ((rd_T56 l0_1 t102).f1).length c109_1) ∧ w'.cell? ⟨(ad107.add ((t102).toNat * 3)).block, (ad107.add ((t102).toNat * 3)).off + 2, none⟩ = some (.slice A109_2 ((rd_T56 l0_1 t102).f2).length c109_2)) (ds := []) #[ff,ff,ff,ff,ff,ff,ff,ff,ff,ff,ff,ff,ff,ff] (by kernel_rfl) rfl rfl ⟨(blk_cell BK108.out 0).trans rfl, (blk_cell BK108.out 1).trans rfl, (blk_cell BK108.out 2).trans rfl, (blk_cell BK101.out 0).trans rfl, (blk_cell BK101.out 1).trans rfl, ((HB.out.cell (World.block_lt_of_cell? w _ hw109_0)).trans hw109_0), ((HB.out.cell (World.block_lt_of_cell? w _ hw109_1)).trans hw109_1), ((HB.out.cell (World.block_lt_of_cell? w _ hw109_2)).trans hw109_2)⟩ (fun hHeld => ?_); refine with_tabW impl_ShareWaits.tab8 impl_ShareWaits.bits8 (fun HT_ HW_ => ?_)
              generalize w35.drew = w36 at HO_6 BK101 BK108 HB HR109_1 HR109_2 hx109_0 hx109_1 hx109_2 hHeld ⊢
              refine pU (i := 0) (N := some 28) #[tt,ff,ff,ff,ff,ff,ff,ff,ff,ff,ff,ff,ff,ff] ?_
              refine pU (i := 1) (N := some 29) #[tt,tt,ff,ff,ff,ff,ff,ff,ff,ff,ff,ff,ff,ff] ?_
              refine pU (i := 2) (N := some 30) #[tt,tt,tt,ff,ff,ff,ff,ff,ff,ff,ff,ff,ff,ff] ?_
              refine pU (i := 3) (N := some 31) #[tt,tt,tt,tt,ff,ff,ff,ff,ff,ff,ff,ff,ff,ff] ?_
              refine pU (i := 4) (N := some 32) #[tt,tt,tt,tt,tt,ff,ff,ff,ff,ff,ff,ff,ff,ff] ?_
              refine pU (i := 6) (N := some 34) #[tt,tt,tt,tt,tt,ff,tt,ff,ff,ff,ff,ff,ff,ff] ?_
              refine pU (i := 8) (N := some 36) #[tt,tt,tt,tt,tt,ff,tt,ff,tt,ff,ff,ff,ff,ff] ?_
              refine tK8 (i := 5) (N := some 33) #[tt,tt,tt,tt,tt,tt,tt,ff,tt,ff,ff,ff,ff,ff] ?_
              refine tK8 (i := 7) (N := some 35) #[tt,tt,tt,tt,tt,tt,tt,tt,tt,ff,ff,ff,ff,ff] ?_
              refine pU (i := 9) (N := some 37) #[tt,tt,tt,tt,tt,tt,tt,tt,tt,tt,ff,ff,ff,ff] ?_
              refine pU (i := 10) (N := some 38) #[tt,tt,tt,tt,tt,tt,tt,tt,tt,tt,tt,ff,ff,ff] ?_
              refine tK8 (i := 11) (N := some 39) #[tt,tt,tt,tt,tt,tt,tt,tt,tt,tt,tt,tt,ff,ff] ?_
              refine one_ (i := 12) (N := some 40) #[tt,tt,tt,tt,tt,tt,tt,tt,tt,tt,tt,tt,tt,ff] rfl rfl (one_of HT_.out (by kernel_rfl)) (by decide) (fun K hK => ?_)
              refine goes_ Try.func78 (by kernel_rfl) rfl #[.slice A107_1 ((rd_T56 l0_1 x23_2).f1).length c107_1, .slice A109_2 ((rd_T56 l0_1 t102).f2).length c109_2] (by rfl) rfl rfl (pY38) ?_
              with_reducible refine (impl_common.calls _ _ ((rd_T56 l0_1 x23_2).f1) _ _ ((rd_T56 l0_1 t102).f2) true _ ?side1 ?side2 ?side3 ?side4 A29.out).mono ?_
              (case side1 => exact pC (Kd.C_below HR107_1.out HB.out))
              (case side2 => exact HC107_1.out)
              (case side3 => exact pC (Kd.C_below HR109_2.out HB.out))
              (case side4 => exact HC109_2.out)
              rintro e w37 ⟨rfl, hb⟩
              refine ⟨_, rfl, ?_⟩
              have n0_ := Aside0.mk (Kd.R_below (pY54) hb)
              have n1_ := Aside0.mk (blk_below (g := gb101) (o := .cells #[.slice A0_0 l0_0.length c0_0, .slice (some ad107) l0_1.length c0_1] 31 (0, 0)) (pY40) hb)
              have n2_ := Aside0.mk (blk_below (g := gb108) (o := .cells #[.string ((rd_T56 l0_1 x23_2).f0), .slice A107_1 ((rd_T56 l0_1 x23_2).f1).length c107_1, .slice A107_2 ((rd_T56 l0_1 x23_2).f2).length c107_2] 56 (0, 0)) (by (with_reducible repeat (first | refine blk_drewN ?_ _ | refine blk_drew ?_ | refine blk_alloc ?_ _)); exact BK108.out) hb)
              have n3_ := Aside0.mk (below_step (pY33) hb)
              clear HO_6
              clear BK101
              clear BK108
              clear HB
              have HO_6 := n0_
              have BK101 := n1_
              have BK108 := n2_
              have HB := n3_
              clear n0_ n1_ n2_ n3_
              (try clear hb)
              (try clear hb2)
              (try clear hk)
              (try clear hi)
              refine hK.out _ _ ⟨(blk_cell BK108.out 0).trans rfl, (blk_cell BK108.out 1).trans rfl, (blk_cell BK108.out 2).trans rfl, (blk_cell BK101.out 0).trans rfl, (blk_cell BK101.out 1).trans rfl, ((HB.out.cell (World.block_lt_of_cell? w _ hw109_0)).trans hw109_0), ((HB.out.cell (World.block_lt_of_cell? w _ hw109_1)).trans hw109_1), ((HB.out.cell (World.block_lt_of_cell? w _ hw109_2)).trans hw109_2)⟩ (fun hHeld => ?_)
              clear hK K
              refine norm_ (a' := ?_) ?_ ?_
              rotate_left
              ·show Act.put _ (some 40) _ = _
               simp only [pW]
               rfl
              refine pU (i := 13) (N := some 41) #[tt,tt,tt,tt,tt,tt,tt,tt,tt,tt,tt,tt,tt,tt] ?_
              refine done_ (done_of HT_.out (by kernel_rfl)) ?_
              have hcz38_0 : w37.cell? ⟨gb108, 0, none⟩ = some (.string ((rd_T56 l0_1 x23_2).f0)) := (blk_cell BK108.out 0).trans rfl
              have hcz38_1 : w37.cell? ⟨gb108, 1, none⟩ = some (.slice A107_1 ((rd_T56 l0_1 x23_2).f1).length c107_1) := (blk_cell BK108.out 1).trans rfl
              have hcz38_2 : w37.cell? ⟨gb108, 2, none⟩ = some (.slice A107_2 ((rd_T56 l0_1 x23_2).f2).length c107_2) := (blk_cell BK108.out 2).trans rfl
              have hfz38_0 := blk_frozen BK108.out 0
              have hfz38_1 := blk_frozen BK108.out 1
              have hfz38_2 := blk_frozen BK108.out 2
              try go_wp2_with (first | ((with_reducible refine gate_builtin (b := .append) (xs := #[.tmp 42, .tmp 45]) rfl ?_); at_builtin; refine Kd.R_append Kd.string (w0 := w) w.heap.size rfl (.tmp 42) (.tmp 45) 23 9 (.string ⟨#[]⟩) 16 rfl Try.underlying23 info9 rfl (by decide) (by omega) u6 x6_2 ((rd_T56 l0_1 x23_2).f0) [.string ((rd_T56 l0_1 x23_2).f0)] (fun _ => True) (fun _ => False) rfl rfl ?aP (fun _ hk => hk.elim) ?aF ?aO ?aB ?aS ?aL ?_; (case aP => exact rfl); (case aB => exact (pY33)); (case aF => exact (fun _ _ => trivial)); (case aO => exact (pY54)); (case aS => exact (below_size (pY33))); (case aL => have := LMc31.out; omega); intro v112 w39 ho hb hg hat; rw [← Ny111.out] at ho; have n0_ := Aside0.mk (blk_grown (g := gb101) (o := .cells #[.slice A0_0 l0_0.length c0_0, .slice (some ad107) l0_1.length c0_1] 31 (0, 0)) (pY40) hg (Kd.R_ne HO_6.out BK101.out (by decide))); have n1_ := Aside0.mk (blk_grown (g := gb108) (o := .cells #[.string ((rd_T56 l0_1 x23_2).f0), .slice A107_1 ((rd_T56 l0_1 x23_2).f1).length c107_1, .slice A107_2 ((rd_T56 l0_1 x23_2).f2).length c107_2] 56 (0, 0)) (by (with_reducible repeat (first | refine blk_drewN ?_ _ | refine blk_drew ?_ | refine blk_alloc ?_ _)); exact BK108.out) hg (Kd.R_ne HO_6.out BK108.out (by decide))); have n2_ := Aside0.mk (hb); have n3_ := Aside0.mk (ho); clear BK101; clear BK108; clear HB; clear HO_6; have BK101 := n0_; have BK108 := n1_; have HB := n2_; have HO113 := n3_; clear n0_ n1_ n2_ n3_; clear ho hb hg hat))
              go_roundg k2
              case measure => have := HJ3.out; have := HK2.out; omega
              case rel => exact ⟨(y111), (wrap64 (x23_2 + 1)), (pY59), H', ⟨by have := HJ3.out; have := HK2.out; omega⟩, ⟨by (with_reducible repeat (first | apply Kd.R_alloc | apply Kd.R_drewN | apply Kd.R_drew)); exact HO113.out⟩, ⟨by (with_reducible repeat (first | refine blk_drewN ?_ _ | refine blk_drew ?_ | refine blk_alloc ?_ _)); exact BK101.out⟩, ⟨pY33⟩⟩
             ·rw [if_neg c31] at H
              exact absurd H (by simp)
            ·replace c30 := Bool.eq_false_iff.mpr c30
             subst c30
             have H1 : (impl_ShareWaits.l0 k2 t102 x6_2 l0_1 (l0_1.length : Int) (wrap64 (x23_2 + 1)) l0_0 l0_1) = some r := by rw [if_neg (show ¬ (false = true) by decide)] at H; exact H
             clear H
             have H := H1
             clear H1
             have H' := Aside0.mk H
             clear H
             have p107 : 0 ≤ (x23_2 : Int) := of_decide_eq_true (pY58)
             have q107 : x23_2 < (l0_1.length : Int) := of_decide_eq_true (pY58)
             obtain ⟨ad107, A107_1, c107_1, A107_2, c107_2, e107, hx107_0, hx107_1, hx107_2, hl107_1, hi107_1, hl107_2, hi107_2⟩ := at_T56 HR0_1.out x23_2 p107 q107
             cases e107
             replace hx107_0 := (HB.out.cell (World.block_lt_of_cell? w _ hx107_0)).trans hx107_0
             replace hx107_1 := (HB.out.cell (World.block_lt_of_cell? w _ hx107_1)).trans hx107_1
             replace hx107_2 := (HB.out.cell (World.block_lt_of_cell? w _ hx107_2)).trans hx107_2
             have HR107_1 := Aside0.mk hi107_1
             have HC107_1 := Aside0.mk hl107_1
             clear hi107_1 hl107_1
             have HR107_2 := Aside0.mk hi107_2
             have HC107_2 := Aside0.mk hl107_2
             clear hi107_2 hl107_2
             replace p107 := eq_true p107
             replace q107 := eq_true q107
             try go_wp2_with (first | ((with_reducible refine gate_dst (N := 8) rfl ?_); refine box_event ?hg (N := 8) ?hd (cs := #[.string (⟨#[]⟩ : ByteArray), .slice none 0 0, .slice none 0 0]) (t := 56) ?hr ?_; (case hd => rfl); (case hg => rfl); (case hr => first | (go_simp; done) | (go_simp; rfl)); intro gb108 hg w40 hbox hb; have n0_ := Aside0.mk (Kd.R_below (pY54) hb); have n1_ := Aside0.mk (blk_below (g := gb101) (o := .cells #[.slice A0_0 l0_0.length c0_0, .slice (some ad107) l0_1.length c0_1] 31 (0, 0)) (pY40) hb); have n2_ := Aside0.mk (below_step (pY37) hb); have n3_ := Aside0.mk (hbox); have n4_ := Aside0.mk ((pY27 : w.heap.size ≤ gb108)); have n5_ := Aside0.mk ((pY27 : w.heap.size ≤ gb108)); have n6_ := Aside0.mk ((by rw [hg]; exact Nat.ne_of_lt (blk_lt (g := gb101) (o := .cells #[.slice A0_0 l0_0.length c0_0, .slice (some ad107) l0_1.length c0_1] 31 (0, 0)) (pY40)) : gb101 ≠ gb108)); have n7_ := Aside0.mk ((by rw [hg]; exact Nat.ne_of_gt (blk_lt (g := gb101) (o := .cells #[.slice A0_0 l0_0.length c0_0, .slice (some ad107) l0_1.length c0_1] 31 (0, 0)) (pY40)) : gb108 ≠ gb101)); clear HO_6; clear BK101; clear HB; have HO_6 := n0_; have BK101 := n1_; have HB := n2_; have BK108 := n3_; have GW108 := n4_; have GE108 := n5_; have NB101_108 := n6_; have NB108_101 := n7_; clear n0_ n1_ n2_ n3_ n4_ n5_ n6_ n7_; clear hb hbox hg; have hnb41 := NB108_101.out; have hnc41 := NB101_108.out; have hcz42_0 : w40.cell? ⟨gb108, 0, none⟩ = some (.string (⟨#[]⟩ : ByteArray)) := (blk_cell BK108.out 0).trans rfl; have hcz42_1 : w40.cell? ⟨gb108, 1, none⟩ = some (.slice none 0 0) := (blk_cell BK108.out 1).trans rfl; have hcz42_2 : w40.cell? ⟨gb108, 2, none⟩ = some (.slice none 0 0) := (blk_cell BK108.out 2).trans rfl; have hfz42_0 := blk_frozen BK108.out 0; have hfz42_1 := blk_frozen BK108.out 1; have hfz42_2 := blk_frozen BK108.out 2))
             have n0_ : Aside0 (Kd.R Kd.string 9 (((w40.setCell ⟨gb108, 0, none⟩ (.string ((rd_T56 l0_1 x23_2).f0))).setCell ⟨gb108, 1, none⟩ (.slice A107_1 ((rd_T56 l0_1 x23_2).f1).length c107_1)).setCell ⟨gb108, 2, none⟩ (.slice A107_2 ((rd_T56 l0_1 x23_2).f2).length c107_2)) w.heap.size (fun _ => True) u6 x6_2) := ⟨by (with_reducible repeat (first | apply Kd.R_alloc | apply Kd.R_drewN | apply Kd.R_drew)); exact Kd.R_mono (Kd.R_far (p := ⟨gb108, 2, none⟩) (Kd.R_far (p := ⟨gb108, 1, none⟩) (Kd.R_far (p := ⟨gb108, 0, none⟩) (Kd.R_types HO_6.out BK108.out (by decide)) (fun _ hk => hk.2) (.string ((rd_T56 l0_1 x23_2).f0))) (fun _ hk => hk.2) (.slice A107_1 ((rd_T56 l0_1 x23_2).f1).length c107_1)) (fun _ hk => hk.2) (.slice A107_2 ((rd_T56 l0_1 x23_2).f2).length c107_2)) (fun _ hk => trivial)⟩
             have n1_ : Aside0 ((((w40.setCell ⟨gb108, 0, none⟩ (.string ((rd_T56 l0_1 x23_2).f0))).setCell ⟨gb108, 1, none⟩ (.slice A107_1 ((rd_T56 l0_1 x23_2).f1).length c107_1)).setCell ⟨gb108, 2, none⟩ (.slice A107_2 ((rd_T56 l0_1 x23_2).f2).length c107_2)).heap[gb101]? = some (.cells #[.slice A0_0 l0_0.length c0_0, .slice (some ad107) l0_1.length c0_1] 31 (0, 0))) := ⟨by (with_reducible repeat (first | refine blk_drewN ?_ _ | refine blk_drew ?_ | refine blk_alloc ?_ _)); refine blk_far ?_ NB101_108.out _; (with_reducible repeat (first | refine blk_drewN ?_ _ | refine blk_drew ?_ | refine blk_alloc ?_ _)); refine blk_far ?_ NB101_108.out _; (with_reducible repeat (first | refine blk_drewN ?_ _ | refine blk_drew ?_ | refine blk_alloc ?_ _)); refine blk_far ?_ NB101_108.out _; (with_reducible repeat (first | refine blk_drewN ?_ _ | refine blk_drew ?_ | refine blk_alloc ?_ _)); exact BK101.out⟩
             have n2_ : Aside0 ((((w40.setCell ⟨gb108, 0, none⟩ (.string ((rd_T56 l0_1 x23_2).f0))).setCell ⟨gb108, 1, none⟩ (.slice A107_1 ((rd_T56 l0_1 x23_2).f1).length c107_1)).setCell ⟨gb108, 2, none⟩ (.slice A107_2 ((rd_T56 l0_1 x23_2).f2).length c107_2)).heap[gb108]? = some (.cells #[.string ((rd_T56 l0_1 x23_2).f0), .slice A107_1 ((rd_T56 l0_1 x23_2).f1).length c107_1, .slice A107_2 ((rd_T56 l0_1 x23_2).f2).length c107_2] 56 (0, 0))) := ⟨by (with_reducible repeat (first | refine blk_drewN ?_ _ | refine blk_drew ?_ | refine blk_alloc ?_ _)); refine blk_put (cs := #[.string ((rd_T56 l0_1 x23_2).f0), .slice A107_1 ((rd_T56 l0_1 x23_2).f1).length c107_1, .slice none 0 0]) ?_ 2 _ rfl; (with_reducible repeat (first | refine blk_drewN ?_ _ | refine blk_drew ?_ | refine blk_alloc ?_ _)); refine blk_put (cs := #[.string ((rd_T56 l0_1 x23_2).f0), .slice none 0 0, .slice none 0 0]) ?_ 1 _ rfl; (with_reducible repeat (first | refine blk_drewN ?_ _ | refine blk_drew ?_ | refine blk_alloc ?_ _)); refine blk_put (cs := #[.string (⟨#[]⟩ : ByteArray), .slice none 0 0, .slice none 0 0]) ?_ 0 _ rfl; (with_reducible repeat (first | refine blk_drewN ?_ _ | refine blk_drew ?_ | refine blk_alloc ?_ _)); exact BK108.out⟩
             have n3_ : Aside0 (Below w.heap.size w (((w40.setCell ⟨gb108, 0, none⟩ (.string ((rd_T56 l0_1 x23_2).f0))).setCell ⟨gb108, 1, none⟩ (.slice A107_1 ((rd_T56 l0_1 x23_2).f1).length c107_1)).setCell ⟨gb108, 2, none⟩ (.slice A107_2 ((rd_T56 l0_1 x23_2).f2).length c107_2))) := ⟨pY33⟩
             (try clear HO_6)
             (try clear BK101)
             (try clear BK108)
             (try clear HB)
             generalize (((w40.setCell ⟨gb108, 0, none⟩ (.string ((rd_T56 l0_1 x23_2).f0))).setCell ⟨gb108, 1, none⟩ (.slice A107_1 ((rd_T56 l0_1 x23_2).f1).length c107_1)).setCell ⟨gb108, 2, none⟩ (.slice A107_2 ((rd_T56 l0_1 x23_2).f2).length c107_2)) = w43 at n0_ n1_ n2_ n3_ ⊢
             have HO_6 := n0_
             have BK101 := n1_
             have BK108 := n2_
             have HB := n3_
             clear n0_ n1_ n2_ n3_
             have n0_ := Aside0.mk (Kd.R_drew HO_6.out)
             have n1_ := Aside0.mk (blk_drew BK101.out)
             have n2_ := Aside0.mk (blk_drew BK108.out)
             have n3_ := Aside0.mk (below_drew1 HB.out)
             clear HO_6
             clear BK101
             clear BK108
             clear HB
             have HO_6 := n0_
             have BK101 := n1_
             have BK108 := n2_
             have HB := n3_
             clear n0_ n1_ n2_ n3_
             have p109 : 0 ≤ (t102 : Int) := of_decide_eq_true (pY58)
             have q109 : t102 < (l0_1.length : Int) := of_decide_eq_true (pY58)
             obtain ⟨ad109, A109_1, c109_1, A109_2, c109_2, e109, hx109_0, hx109_1, hx109_2, hl109_1, hi109_1, hl109_2, hi109_2⟩ := at_T56 HR0_1.out t102 p109 q109
             have hw109_2 := hx109_2
             have hw109_1 := hx109_1
             have hw109_0 := hx109_0
             obtain rfl : ad107 = ad109 := (by injection e109)
             replace hx109_0 := (HB.out.cell (World.block_lt_of_cell? w _ hx109_0)).trans hx109_0
             replace hx109_1 := (HB.out.cell (World.block_lt_of_cell? w _ hx109_1)).trans hx109_1
             replace hx109_2 := (HB.out.cell (World.block_lt_of_cell? w _ hx109_2)).trans hx109_2
             have HR109_1 := Aside0.mk hi109_1
             have HC109_1 := Aside0.mk hl109_1
             clear hi109_1 hl109_1
             have HR109_2 := Aside0.mk hi109_2
             have HC109_2 := Aside0.mk hl109_2
             clear hi109_2 hl109_2
             replace p109 := eq_true p109
             replace q109 := eq_true q109
             refine start_ (n := 14) (S := fun w' => w'.cell? ⟨gb108, 0, none⟩ = some (.string ((rd_T56 l0_1 x23_2).f0)) ∧ w'.cell? ⟨gb108, 1, none⟩ = some (.slice A107_1 ((rd_T56 l0_1 x23_2).f1).length c107_1) ∧ w'.cell? ⟨gb108, 2, none⟩ = some (.slice A107_2 ((rd_T56 l0_1 x23_2).f2).length c107_2) ∧ w'.cell? ⟨gb101, 0, none⟩ = some (.slice A0_0 l0_0.length c0_0) ∧ w'.cell? ⟨gb101, 1, none⟩ = some (.slice (some ad107) l0_1.length c0_1) ∧ w'.cell? (ad107.add ((t102).toNat * 3)) = some (.string ((rd_T56 l0_1 t102).f0)) ∧ w'.cell? ⟨(ad107.add ((t102).toNat * 3)).block, (ad107.add ((t102).toNat * 3)).off + 1, none⟩ = some (.slice A109_1 ((rd_T56 l0_1 t102).f1).length c109_1) ∧ w'.cell? ⟨(ad107.add ((t102).toNat * 3)).block, (ad107.add ((t102).toNat * 3)).off + 2, none⟩ = some (.slice A109_2 ((rd_T56 l0_1 t102).f2).length c109_2)) (ds := []) #[ff,ff,ff,ff,ff,ff,ff,ff,ff,ff,ff,ff,ff,ff] (by kernel_rfl) rfl rfl ⟨(blk_cell BK108.out 0).trans rfl, (blk_cell BK108.out 1).trans rfl, (blk_cell BK108.out 2).trans rfl, (blk_cell BK101.out 0).trans rfl, (blk_cell BK101.out 1).trans rfl, ((HB.out.cell (World.block_lt_of_cell? w _ hw109_0)).trans hw109_0), ((HB.out.cell (World.block_lt_of_cell? w _ hw109_1)).trans hw109_1), ((HB.out.cell (World.block_lt_of_cell? w _ hw109_2)).trans hw109_2)⟩ (fun hHeld => ?_); refine with_tabW impl_ShareWaits.tab8 impl_ShareWaits.bits8 (fun HT_ HW_ => ?_)
             generalize w43.drew = w44 at HO_6 BK101 BK108 HB HR109_1 HR109_2 hx109_0 hx109_1 hx109_2 hHeld ⊢
             refine pU (i := 0) (N := some 28) #[tt,ff,ff,ff,ff,ff,ff,ff,ff,ff,ff,ff,ff,ff] ?_
             refine pU (i := 1) (N := some 29) #[tt,tt,ff,ff,ff,ff,ff,ff,ff,ff,ff,ff,ff,ff] ?_
             refine pU (i := 2) (N := some 30) #[tt,tt,tt,ff,ff,ff,ff,ff,ff,ff,ff,ff,ff,ff] ?_
             refine pU (i := 3) (N := some 31) #[tt,tt,tt,tt,ff,ff,ff,ff,ff,ff,ff,ff,ff,ff] ?_
             refine pU (i := 4) (N := some 32) #[tt,tt,tt,tt,tt,ff,ff,ff,ff,ff,ff,ff,ff,ff] ?_
             refine pU (i := 6) (N := some 34) #[tt,tt,tt,tt,tt,ff,tt,ff,ff,ff,ff,ff,ff,ff] ?_
             refine pU (i := 8) (N := some 36) #[tt,tt,tt,tt,tt,ff,tt,ff,tt,ff,ff,ff,ff,ff] ?_
             refine tK8 (i := 5) (N := some 33) #[tt,tt,tt,tt,tt,tt,tt,ff,tt,ff,ff,ff,ff,ff] ?_
             refine tK8 (i := 7) (N := some 35) #[tt,tt,tt,tt,tt,tt,tt,tt,tt,ff,ff,ff,ff,ff] ?_
             refine pU (i := 9) (N := some 37) #[tt,tt,tt,tt,tt,tt,tt,tt,tt,tt,ff,ff,ff,ff] ?_
             refine pU (i := 10) (N := some 38) #[tt,tt,tt,tt,tt,tt,tt,tt,tt,tt,tt,ff,ff,ff] ?_
             refine tK8 (i := 11) (N := some 39) #[tt,tt,tt,tt,tt,tt,tt,tt,tt,tt,tt,tt,ff,ff] ?_
             refine one_ (i := 12) (N := some 40) #[tt,tt,tt,tt,tt,tt,tt,tt,tt,tt,tt,tt,tt,ff] rfl rfl (one_of HT_.out (by kernel_rfl)) (by decide) (fun K hK => ?_)
             refine goes_ Try.func78 (by kernel_rfl) rfl #[.slice A107_1 ((rd_T56 l0_1 x23_2).f1).length c107_1, .slice A109_2 ((rd_T56 l0_1 t102).f2).length c109_2] (by rfl) rfl rfl (pY38) ?_
             with_reducible refine (impl_common.calls _ _ ((rd_T56 l0_1 x23_2).f1) _ _ ((rd_T56 l0_1 t102).f2) false _ ?side1 ?side2 ?side3 ?side4 A29.out).mono ?_
             (case side1 => exact pC (Kd.C_below HR107_1.out HB.out))
             (case side2 => exact HC107_1.out)
             (case side3 => exact pC (Kd.C_below HR109_2.out HB.out))
             (case side4 => exact HC109_2.out)
             rintro e w45 ⟨rfl, hb⟩
             refine ⟨_, rfl, ?_⟩
             have n0_ := Aside0.mk (Kd.R_below (pY54) hb)
             have n1_ := Aside0.mk (blk_below (g := gb101) (o := .cells #[.slice A0_0 l0_0.length c0_0, .slice (some ad107) l0_1.length c0_1] 31 (0, 0)) (pY40) hb)
             have n2_ := Aside0.mk (blk_below (g := gb108) (o := .cells #[.string ((rd_T56 l0_1 x23_2).f0), .slice A107_1 ((rd_T56 l0_1 x23_2).f1).length c107_1, .slice A107_2 ((rd_T56 l0_1 x23_2).f2).length c107_2] 56 (0, 0)) (by (with_reducible repeat (first | refine blk_drewN ?_ _ | refine blk_drew ?_ | refine blk_alloc ?_ _)); exact BK108.out) hb)
             have n3_ := Aside0.mk (below_step (pY33) hb)
             clear HO_6
             clear BK101
             clear BK108
             clear HB
             have HO_6 := n0_
             have BK101 := n1_
             have BK108 := n2_
             have HB := n3_
             clear n0_ n1_ n2_ n3_
             (try clear hb)
             (try clear hb2)
             (try clear hk)
             (try clear hi)
             refine hK.out _ _ ⟨(blk_cell BK108.out 0).trans rfl, (blk_cell BK108.out 1).trans rfl, (blk_cell BK108.out 2).trans rfl, (blk_cell BK101.out 0).trans rfl, (blk_cell BK101.out 1).trans rfl, ((HB.out.cell (World.block_lt_of_cell? w _ hw109_0)).trans hw109_0), ((HB.out.cell (World.block_lt_of_cell? w _ hw109_1)).trans hw109_1), ((HB.out.cell (World.block_lt_of_cell? w _ hw109_2)).trans hw109_2)⟩ (fun hHeld => ?_)
             clear hK K
             refine norm_ (a' := ?_) ?_ ?_
             rotate_left
             ·show Act.put _ (some 40) _ = _
              simp only [pW]
              rfl
             refine pU (i := 13) (N := some 41) #[tt,tt,tt,tt,tt,tt,tt,tt,tt,tt,tt,tt,tt,tt] ?_
             refine done_ (done_of HT_.out (by kernel_rfl)) ?_
             try go_wp2
             go_roundg k2
             case measure => have := HJ3.out; have := HK2.out; omega
             case rel => exact ⟨(x6_2), (wrap64 (x23_2 + 1)), (pY59), H', ⟨by have := HJ3.out; have := HK2.out; omega⟩, ⟨by (with_reducible repeat (first | apply Kd.R_alloc | apply Kd.R_drewN | apply Kd.R_drew)); exact HO_6.out⟩, ⟨by (with_reducible repeat (first | refine blk_drewN ?_ _ | refine blk_drew ?_ | refine blk_alloc ?_ _)); exact BK101.out⟩, ⟨pY33⟩⟩
           ·rw [if_neg c28] at H
            exact absurd H (by simp)
          ·rw [if_neg c27] at H
           exact absurd H (by simp)
        ·rw [if_neg c20] at H
         exact absurd H (by simp)
       ·rw [if_neg c19] at H
        exact absurd H (by simp)
      ·rw [if_neg c18] at H
       have c18b0 : decide (x23_2 < (l0_1.length : Int)) = false := decide_eq_false c18
       clear c18
       obtain rfl := Option.some.inj H
       go_wp2
       go_ret
       exact ⟨_, by first | rfl | (simp [errW_none, errW_some] <;> rfl) | (simp [*, errW_none, errW_some] <;> rfl), by (with_reducible repeat (first | apply Kd.R_alloc | apply Kd.R_drewN | apply Kd.R_drew)); exact HO_6.out, pY37⟩
end Go.Proofs.Ytaofjgnhapnndaa.Q
namespace Go.Proofs.Ytaofjgnhapnndaa.Q
open Go.RowKit Go.Proofs.YtaofjgnhapnndaaW.PrintWords Go.Proofs.YtaofjgnhapnndaaW.PrintLast Go.Proofs.YtaofjgnhapnndaaW.PrintMore
set_option linter.unusedVariables false
set_option linter.unusedSimpArgs false
def laws_FnExactShareWaits.j0 : Nat → ByteArray → List ByteArray → List ByteArray → Bool → List ByteArray → List (S94) → Option (Bool)
 | 0, _, _, _, _, _, _ => none
 | k + 1, x1, x6, x8, x49, x102000, x102001 => if x49 = true then (some false) else ((laws_markStringS.f k x8 1).bind fun bt132 => ((laws_heldStringS.f k bt132.2 1).bind fun t134 => (if t134 < 0 then (some false) else (if t134 = bt132.1 then ((laws_toShareBook.f k x102000 x102001).bind fun bt135 => ((impl_ShareWaits.f k bt135.1 bt135.2 x1).bind fun t141 => ((laws_eqStringS.f k t141 x6).bind fun t144 => (if t144 = true then ((laws_heldStringS.f k bt132.2 1).bind fun t145 => (if t145 < 0 then (some false) else (if t145 = bt132.1 then (some true) else (some false)))) else (some false))))) else (some false)))))
def laws_FnExactShareWaits.f (k : Nat) (l0_0 : List ByteArray) (l0_1 : List (S94)) (a1 : ByteArray) : Option (Bool) := if (a1.size : Int) > 1048576 then (some true) else ((laws_szShareBook.f k l0_0 l0_1 1048576).bind fun t102 => (if t102 < 0 then (some true) else ((laws_toShareBook.f k l0_0 l0_1).bind fun bt103 => ((spec_ShareWaits.f k bt103.1 bt103.2 a1).bind fun t109 => ((laws_toShareBook.f k l0_0 l0_1).bind fun bt112 => ((impl_ShareWaits.f k bt112.1 bt112.2 a1).bind fun t119 => ((laws_eqStringS.f k t119 t109).bind fun t122 => (if t122 = true then ((laws_toShareBook.f k l0_0 l0_1).bind fun bt123 => ((laws_eqShareBook.f k bt112.1 bt112.2 bt123.1 bt123.2).bind fun t129 => (if t129 = true then ((laws_markShareBook.f k bt112.1 bt112.2 1).bind fun t130 => (if t130 < 0 then (laws_FnExactShareWaits.j0 k a1 t109 t119 true l0_0 l0_1) else ((laws_eqStringS.f k t119 t109).bind fun t131 => (laws_FnExactShareWaits.j0 k a1 t109 t119 (!t131) l0_0 l0_1)))) else (some false)))) else (some false)))))))))
set_option maxHeartbeats 8000000 in
set_option maxRecDepth 100000 in
theorem laws_FnExactShareWaits.calls (k : Nat) (A0_0 : Option Addr) (c0_0 : Nat) (l0_0 : List ByteArray) (A0_1 : Option Addr) (c0_1 : Nat) (l0_1 : List (S94)) (a1 : ByteArray) (r : Bool) (w : World) (hr0_0 : Kd.C Kd.string w A0_0 l0_0.length l0_0) (hc0_0 : l0_0.length ≤ c0_0) (hr0_1 : Kd.C k94 w A0_1 l0_1.length l0_1) (hc0_1 : l0_1.length ≤ c0_1) (h : laws_FnExactShareWaits.f k l0_0 l0_1 a1 = some r) :
  Calls Try.prog 9 #[.agg #[.slice A0_0 l0_0.length c0_0, .slice A0_1 l0_1.length c0_1], .string a1] w fun e w' => e = .returned (.bool r) ∧ Below w.heap.size w w' := by
 have hu26 := Try.underlying26
 have hu31 := Try.underlying31
 have HR0_0 := Aside0.mk hr0_0
 have HC0_0 := Aside0.mk hc0_0
 clear hr0_0 hc0_0
 have HR0_1 := Aside0.mk hr0_1
 have HC0_1 := Aside0.mk hc0_1
 clear hr0_1 hc0_1
 have HB := Aside0.mk (Below.refl w.heap.size w)
 have H : (if (a1.size : Int) > 1048576 then (some true) else ((laws_szShareBook.f k l0_0 l0_1 1048576).bind fun t102 => (if t102 < 0 then (some true) else ((laws_toShareBook.f k l0_0 l0_1).bind fun bt103 => ((spec_ShareWaits.f k bt103.1 bt103.2 a1).bind fun t109 => ((laws_toShareBook.f k l0_0 l0_1).bind fun bt112 => ((impl_ShareWaits.f k bt112.1 bt112.2 a1).bind fun t119 => ((laws_eqStringS.f k t119 t109).bind fun t122 => (if t122 = true then ((laws_toShareBook.f k l0_0 l0_1).bind fun bt123 => ((laws_eqShareBook.f k bt112.1 bt112.2 bt123.1 bt123.2).bind fun t129 => (if t129 = true then ((laws_markShareBook.f k bt112.1 bt112.2 1).bind fun t130 => (if t130 < 0 then (laws_FnExactShareWaits.j0 k a1 t109 t119 true l0_0 l0_1) else ((laws_eqStringS.f k t119 t109).bind fun t131 => (laws_FnExactShareWaits.j0 k a1 t109 t119 (!t131) l0_0 l0_1)))) else (some false)))) else (some false)))))))))) = some r := h
 clear h
 by_cases c3 : (a1.size : Int) > 1048576
 ·rw [if_pos c3] at H
  have c3b0 : decide (1048576 < (a1.size : Int)) = true := decide_eq_true c3
  have c3b1 : decide (1048576 < a1.size) = true := decide_eq_true (by omega)
  clear c3
  obtain rfl := Option.some.inj H
  go_enter Try.func9, Try.ntmps9
  go_wp2_with (first | ((with_reducible refine gate_dst (N := 2) rfl ?_); refine box_event ?hg (N := 2) ?hd (cs := #[.slice A0_0 l0_0.length c0_0, .slice A0_1 l0_1.length c0_1]) (t := 26) ?hr ?_; (case hd => rfl); (case hg => rfl); (case hr => first | (go_simp; done) | (go_simp; rfl)); intro gb101 hg w4 hbox hb; have n0_ := Aside0.mk (below_step (pY39) hb); have n1_ := Aside0.mk (hbox); have n2_ := Aside0.mk ((pY36 : w.heap.size ≤ gb101)); have n3_ := Aside0.mk ((pY36 : w.heap.size ≤ gb101)); clear HB; have HB := n0_; have BK101 := n1_; have GW101 := n2_; have GE101 := n3_; clear n0_ n1_ n2_ n3_; clear hb hbox hg))
  go_ret
  exact ⟨by first | rfl | (simp [errW_none, errW_some] <;> rfl) | (simp [*, errW_none, errW_some] <;> rfl), pY37⟩
 ·rw [if_neg c3] at H
  have c3b0 : decide (1048576 < (a1.size : Int)) = false := decide_eq_false c3
  have c3b1 : decide (1048576 < a1.size) = false := decide_eq_false (by omega)
  clear c3
  replace H := Option.bind_eq_some_iff.mp H
  obtain ⟨t102, A50, H⟩ := H
  replace H : (if t102 < 0 then (some true) else ((laws_toShareBook.f k l0_0 l0_1).bind fun bt103 => ((spec_ShareWaits.f k bt103.1 bt103.2 a1).bind fun t109 => ((laws_toShareBook.f k l0_0 l0_1).bind fun bt112 => ((impl_ShareWaits.f k bt112.1 bt112.2 a1).bind fun t119 => ((laws_eqStringS.f k t119 t109).bind fun t122 => (if t122 = true then ((laws_toShareBook.f k l0_0 l0_1).bind fun bt123 => ((laws_eqShareBook.f k bt112.1 bt112.2 bt123.1 bt123.2).bind fun t129 => (if t129 = true then ((laws_markShareBook.f k bt112.1 bt112.2 1).bind fun t130 => (if t130 < 0 then (laws_FnExactShareWaits.j0 k a1 t109 t119 true l0_0 l0_1) else ((laws_eqStringS.f k t119 t109).bind fun t131 => (laws_FnExactShareWaits.j0 k a1 t109 t119 (!t131) l0_0 l0_1)))) else (some false)))) else (some false)))))))) = some r := H
  have A5 := Aside0.mk A50
  clear A50
  by_cases c6 : t102 < 0
  ·rw [if_pos c6] at H
   have c6b0 : decide (t102 < 0) = true := decide_eq_true c6
   clear c6
   obtain rfl := Option.some.inj H
   go_enter Try.func9, Try.ntmps9
   go_wp2_with (first | ((with_reducible refine gate_dst (N := 2) rfl ?_); refine box_event ?hg (N := 2) ?hd (cs := #[.slice A0_0 l0_0.length c0_0, .slice A0_1 l0_1.length c0_1]) (t := 26) ?hr ?_; (case hd => rfl); (case hg => rfl); (case hr => first | (go_simp; done) | (go_simp; rfl)); intro gb101 hg w7 hbox hb; have n0_ := Aside0.mk (below_step (pY39) hb); have n1_ := Aside0.mk (hbox); have n2_ := Aside0.mk ((pY36 : w.heap.size ≤ gb101)); have n3_ := Aside0.mk ((pY36 : w.heap.size ≤ gb101)); clear HB; have HB := n0_; have BK101 := n1_; have GW101 := n2_; have GE101 := n3_; clear n0_ n1_ n2_ n3_; clear hb hbox hg; have hcz8_0 : w7.cell? ⟨gb101, 0, none⟩ = some (.slice A0_0 l0_0.length c0_0) := (blk_cell BK101.out 0).trans rfl; have hcz8_1 : w7.cell? ⟨gb101, 1, none⟩ = some (.slice A0_1 l0_1.length c0_1) := (blk_cell BK101.out 1).trans rfl; have hfz8_0 := blk_frozen BK101.out 0; have hfz8_1 := blk_frozen BK101.out 1) | ((with_reducible refine gate_callee (f := 21) rfl ?_); refine goesL_ (some 18) rfl rfl Try.func21 (by kernel_rfl) rfl #[.agg #[.slice A0_0 l0_0.length c0_0, .slice A0_1 l0_1.length c0_1], .int .i64 1048576] rfl (pY38) ?_; (with_reducible refine (laws_szShareBook.calls k _ _ l0_0 _ _ l0_1 1048576 t102 _ ?side1 ?side2 ?side3 ?side4 A5.out).mono ?_); (case side1 => exact pC (Kd.C_below HR0_0.out HB.out)); (case side2 => exact HC0_0.out); (case side3 => exact pC (Kd.C_below HR0_1.out HB.out)); (case side4 => exact HC0_1.out); rintro e w9 ⟨rfl, hb⟩; refine ⟨_, rfl, ?_⟩; have n0_ := Aside0.mk (blk_below (g := gb101) (o := .cells #[.slice A0_0 l0_0.length c0_0, .slice A0_1 l0_1.length c0_1] 26 (0, 0)) (pY40) hb); have n1_ := Aside0.mk (below_step (pY37) hb); clear BK101; clear HB; have BK101 := n0_; have HB := n1_; clear n0_ n1_; (try clear hb); (try clear hb2); (try clear hk); (try clear hi)))
   go_ret
   exact ⟨by first | rfl | (simp [errW_none, errW_some] <;> rfl) | (simp [*, errW_none, errW_some] <;> rfl), pY37⟩
  ·rw [if_neg c6] at H
   have c6b0 : decide (t102 < 0) = false := decide_eq_false c6
   clear c6
   replace H := Option.bind_eq_some_iff.mp H
   obtain ⟨⟨t103, t106⟩, A100, H⟩ := H
   replace H : ((spec_ShareWaits.f k t103 t106 a1).bind fun t109 => ((laws_toShareBook.f k l0_0 l0_1).bind fun bt112 => ((impl_ShareWaits.f k bt112.1 bt112.2 a1).bind fun t119 => ((laws_eqStringS.f k t119 t109).bind fun t122 => (if t122 = true then ((laws_toShareBook.f k l0_0 l0_1).bind fun bt123 => ((laws_eqShareBook.f k bt112.1 bt112.2 bt123.1 bt123.2).bind fun t129 => (if t129 = true then ((laws_markShareBook.f k bt112.1 bt112.2 1).bind fun t130 => (if t130 < 0 then (laws_FnExactShareWaits.j0 k a1 t109 t119 true l0_0 l0_1) else ((laws_eqStringS.f k t119 t109).bind fun t131 => (laws_FnExactShareWaits.j0 k a1 t109 t119 (!t131) l0_0 l0_1)))) else (some false)))) else (some false)))))) = some r := H
   have A10 := Aside0.mk A100
   clear A100
   replace H := Option.bind_eq_some_iff.mp H
   obtain ⟨t109, A110, H⟩ := H
   replace H : ((laws_toShareBook.f k l0_0 l0_1).bind fun bt112 => ((impl_ShareWaits.f k bt112.1 bt112.2 a1).bind fun t119 => ((laws_eqStringS.f k t119 t109).bind fun t122 => (if t122 = true then ((laws_toShareBook.f k l0_0 l0_1).bind fun bt123 => ((laws_eqShareBook.f k bt112.1 bt112.2 bt123.1 bt123.2).bind fun t129 => (if t129 = true then ((laws_markShareBook.f k bt112.1 bt112.2 1).bind fun t130 => (if t130 < 0 then (laws_FnExactShareWaits.j0 k a1 t109 t119 true l0_0 l0_1) else ((laws_eqStringS.f k t119 t109).bind fun t131 => (laws_FnExactShareWaits.j0 k a1 t109 t119 (!t131) l0_0 l0_1)))) else (some false)))) else (some false))))) = some r := H
   have A11 := Aside0.mk A110
   clear A110
   replace H := Option.bind_eq_some_iff.mp H
   obtain ⟨⟨t112, t115⟩, A120, H⟩ := H
   replace H : ((impl_ShareWaits.f k t112 t115 a1).bind fun t119 => ((laws_eqStringS.f k t119 t109).bind fun t122 => (if t122 = true then ((laws_toShareBook.f k l0_0 l0_1).bind fun bt123 => ((laws_eqShareBook.f k t112 t115 bt123.1 bt123.2).bind fun t129 => (if t129 = true then ((laws_markShareBook.f k t112 t115 1).bind fun t130 => (if t130 < 0 then (laws_FnExactShareWaits.j0 k a1 t109 t119 true l0_0 l0_1) else ((laws_eqStringS.f k t119 t109).bind fun t131 => (laws_FnExactShareWaits.j0 k a1 t109 t119 (!t131) l0_0 l0_1)))) else (some false)))) else (some false)))) = some r := H
   have A12 := Aside0.mk A120
   clear A120
   replace H := Option.bind_eq_some_iff.mp H
   obtain ⟨t119, A130, H⟩ := H
   replace H : ((laws_eqStringS.f k t119 t109).bind fun t122 => (if t122 = true then ((laws_toShareBook.f k l0_0 l0_1).bind fun bt123 => ((laws_eqShareBook.f k t112 t115 bt123.1 bt123.2).bind fun t129 => (if t129 = true then ((laws_markShareBook.f k t112 t115 1).bind fun t130 => (if t130 < 0 then (laws_FnExactShareWaits.j0 k a1 t109 t119 true l0_0 l0_1) else ((laws_eqStringS.f k t119 t109).bind fun t131 => (laws_FnExactShareWaits.j0 k a1 t109 t119 (!t131) l0_0 l0_1)))) else (some false)))) else (some false))) = some r := H
   have A13 := Aside0.mk A130
   clear A130
   replace H := Option.bind_eq_some_iff.mp H
   obtain ⟨t122, A140, H⟩ := H
   replace H : (if t122 = true then ((laws_toShareBook.f k l0_0 l0_1).bind fun bt123 => ((laws_eqShareBook.f k t112 t115 bt123.1 bt123.2).bind fun t129 => (if t129 = true then ((laws_markShareBook.f k t112 t115 1).bind fun t130 => (if t130 < 0 then (laws_FnExactShareWaits.j0 k a1 t109 t119 true l0_0 l0_1) else ((laws_eqStringS.f k t119 t109).bind fun t131 => (laws_FnExactShareWaits.j0 k a1 t109 t119 (!t131) l0_0 l0_1)))) else (some false)))) else (some false)) = some r := H
   have A14 := Aside0.mk A140
   clear A140
   by_cases c15 : t122 = true
   ·subst c15
    have H1 : ((laws_toShareBook.f k l0_0 l0_1).bind fun bt123 => ((laws_eqShareBook.f k t112 t115 bt123.1 bt123.2).bind fun t129 => (if t129 = true then ((laws_markShareBook.f k t112 t115 1).bind fun t130 => (if t130 < 0 then (laws_FnExactShareWaits.j0 k a1 t109 t119 true l0_0 l0_1) else ((laws_eqStringS.f k t119 t109).bind fun t131 => (laws_FnExactShareWaits.j0 k a1 t109 t119 (!t131) l0_0 l0_1)))) else (some false)))) = some r := by rw [if_pos rfl] at H; exact H
    clear H
    have H := H1
    clear H1
    replace H := Option.bind_eq_some_iff.mp H
    obtain ⟨⟨t123, t126⟩, A160, H⟩ := H
    replace H : ((laws_eqShareBook.f k t112 t115 t123 t126).bind fun t129 => (if t129 = true then ((laws_markShareBook.f k t112 t115 1).bind fun t130 => (if t130 < 0 then (laws_FnExactShareWaits.j0 k a1 t109 t119 true l0_0 l0_1) else ((laws_eqStringS.f k t119 t109).bind fun t131 => (laws_FnExactShareWaits.j0 k a1 t109 t119 (!t131) l0_0 l0_1)))) else (some false))) = some r := H
    have A16 := Aside0.mk A160
    clear A160
    replace H := Option.bind_eq_some_iff.mp H
    obtain ⟨t129, A170, H⟩ := H
    replace H : (if t129 = true then ((laws_markShareBook.f k t112 t115 1).bind fun t130 => (if t130 < 0 then (laws_FnExactShareWaits.j0 k a1 t109 t119 true l0_0 l0_1) else ((laws_eqStringS.f k t119 t109).bind fun t131 => (laws_FnExactShareWaits.j0 k a1 t109 t119 (!t131) l0_0 l0_1)))) else (some false)) = some r := H
    have A17 := Aside0.mk A170
    clear A170
    by_cases c18 : t129 = true
    ·subst c18
     have H1 : ((laws_markShareBook.f k t112 t115 1).bind fun t130 => (if t130 < 0 then (laws_FnExactShareWaits.j0 k a1 t109 t119 true l0_0 l0_1) else ((laws_eqStringS.f k t119 t109).bind fun t131 => (laws_FnExactShareWaits.j0 k a1 t109 t119 (!t131) l0_0 l0_1)))) = some r := by rw [if_pos rfl] at H; exact H
     clear H
     have H := H1
     clear H1
     replace H := Option.bind_eq_some_iff.mp H
     obtain ⟨t130, A190, H⟩ := H
     replace H : (if t130 < 0 then (laws_FnExactShareWaits.j0 k a1 t109 t119 true l0_0 l0_1) else ((laws_eqStringS.f k t119 t109).bind fun t131 => (laws_FnExactShareWaits.j0 k a1 t109 t119 (!t131) l0_0 l0_1))) = some r := H
     have A19 := Aside0.mk A190
     clear A190
     have HC20 := Aside0.mk H
     clear H
     go_enter Try.func9, Try.ntmps9
     try go_wp2_with (first | ((with_reducible refine gate_dst (N := 2) rfl ?_); refine box_event ?hg (N := 2) ?hd (cs := #[.slice A0_0 l0_0.length c0_0, .slice A0_1 l0_1.length c0_1]) (t := 26) ?hr ?_; (case hd => rfl); (case hg => rfl); (case hr => first | (go_simp; done) | (go_simp; rfl)); intro gb101 hg w21 hbox hb; have n0_ := Aside0.mk (below_step (pY39) hb); have n1_ := Aside0.mk (hbox); have n2_ := Aside0.mk ((pY36 : w.heap.size ≤ gb101)); have n3_ := Aside0.mk ((pY36 : w.heap.size ≤ gb101)); clear HB; have HB := n0_; have BK101 := n1_; have GW101 := n2_; have GE101 := n3_; clear n0_ n1_ n2_ n3_; clear hb hbox hg; have hcz22_0 : w21.cell? ⟨gb101, 0, none⟩ = some (.slice A0_0 l0_0.length c0_0) := (blk_cell BK101.out 0).trans rfl; have hcz22_1 : w21.cell? ⟨gb101, 1, none⟩ = some (.slice A0_1 l0_1.length c0_1) := (blk_cell BK101.out 1).trans rfl; have hfz22_0 := blk_frozen BK101.out 0; have hfz22_1 := blk_frozen BK101.out 1) | ((with_reducible refine gate_callee (f := 21) rfl ?_); refine goesL_ (some 18) rfl rfl Try.func21 (by kernel_rfl) rfl #[.agg #[.slice A0_0 l0_0.length c0_0, .slice A0_1 l0_1.length c0_1], .int .i64 1048576] rfl (pY38) ?_; (with_reducible refine (laws_szShareBook.calls k _ _ l0_0 _ _ l0_1 1048576 t102 _ ?side1 ?side2 ?side3 ?side4 A5.out).mono ?_); (case side1 => exact pC (Kd.C_below HR0_0.out HB.out)); (case side2 => exact HC0_0.out); (case side3 => exact pC (Kd.C_below HR0_1.out HB.out)); (case side4 => exact HC0_1.out); rintro e w23 ⟨rfl, hb⟩; refine ⟨_, rfl, ?_⟩; have n0_ := Aside0.mk (blk_below (g := gb101) (o := .cells #[.slice A0_0 l0_0.length c0_0, .slice A0_1 l0_1.length c0_1] 26 (0, 0)) (pY40) hb); have n1_ := Aside0.mk (below_step (pY37) hb); clear BK101; clear HB; have BK101 := n0_; have HB := n1_; clear n0_ n1_; (try clear hb); (try clear hb2); (try clear hk); (try clear hi); have hcz24_0 : w23.cell? ⟨gb101, 0, none⟩ = some (.slice A0_0 l0_0.length c0_0) := (blk_cell BK101.out 0).trans rfl; have hcz24_1 : w23.cell? ⟨gb101, 1, none⟩ = some (.slice A0_1 l0_1.length c0_1) := (blk_cell BK101.out 1).trans rfl; have hfz24_0 := blk_frozen BK101.out 0; have hfz24_1 := blk_frozen BK101.out 1) | ((with_reducible refine gate_callee (f := 23) rfl ?_); refine goesL_ (some 22) rfl rfl Try.func23 (by kernel_rfl) rfl #[.agg #[.slice A0_0 l0_0.length c0_0, .slice A0_1 l0_1.length c0_1]] rfl (pY38) ?_; (with_reducible refine (laws_toShareBook.calls k _ _ l0_0 _ _ l0_1 t103 t106 _ ?side1 ?side2 ?side3 ?side4 A10.out).mono ?_); (case side1 => exact pC (Kd.C_below HR0_0.out HB.out)); (case side2 => exact HC0_0.out); (case side3 => exact pC (Kd.C_below HR0_1.out HB.out)); (case side4 => exact HC0_1.out); rintro e w25 ⟨v104, v107, rfl, ho0, ho1, hb⟩; refine ⟨_, rfl, ?_⟩; have n0_ := Aside0.mk (Kd.R_lower ho0 (below_size (pY37))); have n1_ := Aside0.mk (Kd.S_lower ho1 (below_size (pY37))); have n2_ := Aside0.mk (blk_below (g := gb101) (o := .cells #[.slice A0_0 l0_0.length c0_0, .slice A0_1 l0_1.length c0_1] 26 (0, 0)) (pY40) hb); have n3_ := Aside0.mk (below_step (pY37) hb); clear BK101; clear HB; have HO105 := n0_; have HO108 := n1_; have BK101 := n2_; have HB := n3_; clear n0_ n1_ n2_ n3_; (try clear hb); (try clear hb2); (try clear hk); (try clear hi); (try clear ho0); (try clear ho1); obtain ⟨Ao26, co26, eo26⟩ := Kd.R_slice HO105.out; subst eo26; obtain ⟨Ao27, co27, eo27⟩ := Kd.S_slice HO108.out; subst eo27) | ((with_reducible refine gate_callee (f := 37) rfl ?_); refine goesL_ (some 24) rfl rfl Try.func37 (by kernel_rfl) rfl #[.agg #[.slice Ao26 t103.length co26, .slice Ao27 t106.length co27], .string a1] rfl (pY38) ?_; (with_reducible refine (spec_ShareWaits.calls k _ _ t103 _ _ t106 a1 t109 _ ?side1 ?side2 ?side3 ?side4 A11.out).mono ?_); (case side1 => exact pC (Kd.R_reads' HO105.out).2.2); (case side2 => exact (Kd.R_reads' HO105.out).2.1); (case side3 => exact pC (Kd.S_reads' HO108.out).2.2); (case side4 => exact (Kd.S_reads' HO108.out).2.1); rintro e w28 ⟨v110, rfl, ho0, hb⟩; refine ⟨_, rfl, ?_⟩; have n0_ := Aside0.mk (Kd.R_elder' (pY44) (Kd.R_base ho0) hb); have n1_ := Aside0.mk (Kd.S_elder' (pY45) (Kd.R_base ho0) hb); have n2_ := Aside0.mk (Kd.R_lower (Kd.R_new' ho0 (Kd.R_lt (pY44))) (below_size (pY37))); have n3_ := Aside0.mk (blk_below (g := gb101) (o := .cells #[.slice A0_0 l0_0.length c0_0, .slice A0_1 l0_1.length c0_1] 26 (0, 0)) (pY40) hb); have n4_ := Aside0.mk (below_step (pY37) hb); clear HO105; clear HO108; clear BK101; clear HB; have HO105 := n0_; have HO108 := n1_; have HO111 := n2_; have BK101 := n3_; have HB := n4_; clear n0_ n1_ n2_ n3_ n4_; (try clear hb); (try clear hb2); (try clear hk); (try clear hi); (try clear ho0); have hcz29_0 : w28.cell? ⟨gb101, 0, none⟩ = some (.slice A0_0 l0_0.length c0_0) := (blk_cell BK101.out 0).trans rfl; have hcz29_1 : w28.cell? ⟨gb101, 1, none⟩ = some (.slice A0_1 l0_1.length c0_1) := (blk_cell BK101.out 1).trans rfl; have hfz29_0 := blk_frozen BK101.out 0; have hfz29_1 := blk_frozen BK101.out 1) | ((with_reducible refine gate_callee (f := 23) rfl ?_); refine goesL_ (some 26) rfl rfl Try.func23 (by kernel_rfl) rfl #[.agg #[.slice A0_0 l0_0.length c0_0, .slice A0_1 l0_1.length c0_1]] rfl (pY38) ?_; (with_reducible refine (laws_toShareBook.calls k _ _ l0_0 _ _ l0_1 t112 t115 _ ?side1 ?side2 ?side3 ?side4 A12.out).mono ?_); (case side1 => exact pC (Kd.C_below HR0_0.out HB.out)); (case side2 => exact HC0_0.out); (case side3 => exact pC (Kd.C_below HR0_1.out HB.out)); (case side4 => exact HC0_1.out); rintro e w30 ⟨v113, v116, rfl, ho0, ho1, hb⟩; refine ⟨_, rfl, ?_⟩; have n0_ := Aside0.mk (Kd.R_elder' (pY44) (Kd.R_base ho0) hb); have n1_ := Aside0.mk (Kd.S_mono (Kd.S_told (Kd.S_told (Kd.S_old (pY45) hb) (Kd.R_base ho0)) (Kd.S_base ho1)) (fun _ h_ => h_.1)); have n2_ := Aside0.mk (Kd.R_elder' (pY46) (Kd.R_base ho0) hb); have n3_ := Aside0.mk (Kd.R_lower (Kd.R_new' (Kd.R_new' ho0 (Kd.R_lt (pY44))) (Kd.R_lt (pY46))) (below_size (pY37))); have n4_ := Aside0.mk (Kd.S_lower (Kd.S_new' (Kd.S_new' (Kd.S_new' ho1 (Kd.R_lt (pY44))) (Kd.S_lt (pY45))) (Kd.R_lt (pY46))) (below_size (pY37))); have n5_ := Aside0.mk (blk_below (g := gb101) (o := .cells #[.slice A0_0 l0_0.length c0_0, .slice A0_1 l0_1.length c0_1] 26 (0, 0)) (pY40) hb); have n6_ := Aside0.mk (below_step (pY37) hb); clear HO105; clear HO108; clear HO111; clear BK101; clear HB; have HO105 := n0_; have HO108 := n1_; have HO111 := n2_; have HO114 := n3_; have HO117 := n4_; have BK101 := n5_; have HB := n6_; clear n0_ n1_ n2_ n3_ n4_ n5_ n6_; (try clear hb); (try clear hb2); (try clear hk); (try clear hi); (try clear ho0); (try clear ho1)) | ((with_reducible refine gate_dst (N := 7) rfl ?_); refine box_event ?hg (N := 7) ?hd (cs := #[.slice none 0 0, .slice none 0 0]) (t := 31) ?hr ?_; (case hd => rfl); (case hg => rfl); (case hr => first | (go_simp; done) | (go_simp; rfl)); intro gb118 hg w31 hbox hb; have n0_ := Aside0.mk (Kd.R_below (pY44) hb); have n1_ := Aside0.mk (Kd.S_below (pY45) hb); have n2_ := Aside0.mk (Kd.R_below (pY46) hb); have n3_ := Aside0.mk (Kd.R_below (pY47) hb); have n4_ := Aside0.mk (Kd.S_below (pY48) hb); have n5_ := Aside0.mk (blk_below (g := gb101) (o := .cells #[.slice A0_0 l0_0.length c0_0, .slice A0_1 l0_1.length c0_1] 26 (0, 0)) (pY40) hb); have n6_ := Aside0.mk (below_step (pY37) hb); have n7_ := Aside0.mk (hbox); have n8_ := Aside0.mk ((pY27 : w.heap.size ≤ gb118)); have n9_ := Aside0.mk ((pY27 : w.heap.size ≤ gb118)); have n10_ := Aside0.mk ((pY19 : gb101 ≠ gb118)); have n11_ := Aside0.mk ((pY20 : gb118 ≠ gb101)); clear HO105; clear HO108; clear HO111; clear HO114; clear HO117; clear BK101; clear HB; have HO105 := n0_; have HO108 := n1_; have HO111 := n2_; have HO114 := n3_; have HO117 := n4_; have BK101 := n5_; have HB := n6_; have BK118 := n7_; have GW118 := n8_; have GE118 := n9_; have NB101_118 := n10_; have NB118_101 := n11_; clear n0_ n1_ n2_ n3_ n4_ n5_ n6_ n7_ n8_ n9_ n10_ n11_; clear hb hbox hg; obtain ⟨Ao32, co32, eo32⟩ := Kd.R_slice HO114.out; subst eo32; have hnb33 := NB118_101.out; have hnc33 := NB101_118.out; have hcz34_0 : w31.cell? ⟨gb118, 0, none⟩ = some (.slice none 0 0) := (blk_cell BK118.out 0).trans rfl; have hcz34_1 : w31.cell? ⟨gb118, 1, none⟩ = some (.slice none 0 0) := (blk_cell BK118.out 1).trans rfl; have hfz34_0 := blk_frozen BK118.out 0; have hfz34_1 := blk_frozen BK118.out 1; obtain ⟨Ao35, co35, eo35⟩ := Kd.S_slice HO117.out; subst eo35) | ((with_reducible refine gate_callee (f := 38) rfl ?_); refine goesL_ (some 29) rfl rfl Try.func38 (by kernel_rfl) rfl #[.agg #[.slice Ao32 t112.length co32, .slice Ao35 t115.length co35], .string a1] rfl (pY38) ?_; (with_reducible refine (impl_ShareWaits.calls k _ _ t112 _ _ t115 a1 t119 _ ?side1 ?side2 ?side3 ?side4 A13.out).mono ?_); (case side1 => refine (Kd.R_reads' (e := 9) (base := w.heap.size) (ok := fun k_ => ((True ∧ some k_ ≠ (.slice Ao26 t103.length co26 : Value).ownBlock) ∧ some k_ ≠ (v110 : Value).ownBlock)) (n := t112.length) (c := co32) ?_).2.2; exact (pY10)); (case side2 => exact (Kd.R_reads' HO114.out).2.1); (case side3 => refine (Kd.S_reads' (e := 56) (base := w.heap.size) (ok := fun k_ => (((some k_ ≠ (.slice Ao32 t112.length co32 : Value).ownBlock ∧ some k_ ≠ (.slice Ao26 t103.length co26 : Value).ownBlock) ∧ some k_ ≠ (.slice Ao27 t106.length co27 : Value).ownBlock) ∧ some k_ ≠ (v110 : Value).ownBlock)) (n := t115.length) (c := co35) ?_).2.2; exact (by (with_reducible repeat (first | apply Kd.S_alloc | apply Kd.S_drewN | apply Kd.S_drew)); exact (Kd.S_mono (Kd.S_far (p := ⟨gb118, 1, none⟩) (Kd.S_far (p := ⟨gb118, 0, none⟩) (Kd.S_types HO117.out BK118.out (by decide)) (fun _ hk => hk.2) (.slice Ao32 t112.length co32)) (fun _ hk => hk.2) (.slice Ao35 t115.length co35)) (fun _ h_ => h_.1)))); (case side4 => exact (Kd.S_reads' HO117.out).2.1); rintro e w36 ⟨v120, rfl, ho0, hb⟩; refine ⟨_, rfl, ?_⟩; have n0_ := Aside0.mk (Kd.R_elder' (by (with_reducible repeat (first | apply Kd.R_alloc | apply Kd.R_drewN | apply Kd.R_drew)); exact (Kd.R_mono (Kd.R_far (p := ⟨gb118, 1, none⟩) (Kd.R_far (p := ⟨gb118, 0, none⟩) (Kd.R_types HO105.out BK118.out (by decide)) (fun _ hk => hk.2) (.slice Ao32 t112.length co32)) (fun _ hk => hk.2) (.slice Ao35 t115.length co35)) (fun _ h_ => h_.1))) (Kd.R_base ho0) hb); have n1_ := Aside0.mk (Kd.S_elder' (by (with_reducible repeat (first | apply Kd.S_alloc | apply Kd.S_drewN | apply Kd.S_drew)); exact (Kd.S_mono (Kd.S_far (p := ⟨gb118, 1, none⟩) (Kd.S_far (p := ⟨gb118, 0, none⟩) (Kd.S_types HO108.out BK118.out (by decide)) (fun _ hk => hk.2) (.slice Ao32 t112.length co32)) (fun _ hk => hk.2) (.slice Ao35 t115.length co35)) (fun _ h_ => h_.1))) (Kd.R_base ho0) hb); have n2_ := Aside0.mk (Kd.R_elder' (by (with_reducible repeat (first | apply Kd.R_alloc | apply Kd.R_drewN | apply Kd.R_drew)); exact (Kd.R_mono (Kd.R_far (p := ⟨gb118, 1, none⟩) (Kd.R_far (p := ⟨gb118, 0, none⟩) (Kd.R_types HO111.out BK118.out (by decide)) (fun _ hk => hk.2) (.slice Ao32 t112.length co32)) (fun _ hk => hk.2) (.slice Ao35 t115.length co35)) (fun _ h_ => h_.1))) (Kd.R_base ho0) hb); have n3_ := Aside0.mk (Kd.R_elder' (pY10) (Kd.R_base ho0) hb); have n4_ := Aside0.mk (Kd.S_elder' (by (with_reducible repeat (first | apply Kd.S_alloc | apply Kd.S_drewN | apply Kd.S_drew)); exact (Kd.S_mono (Kd.S_far (p := ⟨gb118, 1, none⟩) (Kd.S_far (p := ⟨gb118, 0, none⟩) (Kd.S_types HO117.out BK118.out (by decide)) (fun _ hk => hk.2) (.slice Ao32 t112.length co32)) (fun _ hk => hk.2) (.slice Ao35 t115.length co35)) (fun _ h_ => h_.1))) (Kd.R_base ho0) hb); have n5_ := Aside0.mk (Kd.R_lower (Kd.R_new' (Kd.R_new' (Kd.R_new' ho0 (Kd.R_lt (by (with_reducible repeat (first | apply Kd.R_alloc | apply Kd.R_drewN | apply Kd.R_drew)); exact (Kd.R_mono (Kd.R_far (p := ⟨gb118, 1, none⟩) (Kd.R_far (p := ⟨gb118, 0, none⟩) (Kd.R_types HO105.out BK118.out (by decide)) (fun _ hk => hk.2) (.slice Ao32 t112.length co32)) (fun _ hk => hk.2) (.slice Ao35 t115.length co35)) (fun _ h_ => h_.1))))) (Kd.R_lt (by (with_reducible repeat (first | apply Kd.R_alloc | apply Kd.R_drewN | apply Kd.R_drew)); exact (Kd.R_mono (Kd.R_far (p := ⟨gb118, 1, none⟩) (Kd.R_far (p := ⟨gb118, 0, none⟩) (Kd.R_types HO111.out BK118.out (by decide)) (fun _ hk => hk.2) (.slice Ao32 t112.length co32)) (fun _ hk => hk.2) (.slice Ao35 t115.length co35)) (fun _ h_ => h_.1))))) (Kd.R_lt (pY10))) (below_size (pY34))); have n6_ := Aside0.mk (blk_below (g := gb101) (o := .cells #[.slice A0_0 l0_0.length c0_0, .slice A0_1 l0_1.length c0_1] 26 (0, 0)) (pY5) hb); have n7_ := Aside0.mk (blk_below (g := gb118) (o := .cells #[.slice Ao32 t112.length co32, .slice Ao35 t115.length co35] 31 (0, 0)) (by (with_reducible repeat (first | refine blk_drewN ?_ _ | refine blk_drew ?_ | refine blk_alloc ?_ _)); refine blk_put (cs := #[.slice Ao32 t112.length co32, .slice none 0 0]) ?_ 1 _ rfl; (with_reducible repeat (first | refine blk_drewN ?_ _ | refine blk_drew ?_ | refine blk_alloc ?_ _)); refine blk_put (cs := #[.slice none 0 0, .slice none 0 0]) ?_ 0 _ rfl; (with_reducible repeat (first | refine blk_drewN ?_ _ | refine blk_drew ?_ | refine blk_alloc ?_ _)); exact BK118.out) hb); have n8_ := Aside0.mk (below_step (pY34) hb); clear HO105; clear HO108; clear HO111; clear HO114; clear HO117; clear BK101; clear BK118; clear HB; have HO105 := n0_; have HO108 := n1_; have HO111 := n2_; have HO114 := n3_; have HO117 := n4_; have HO121 := n5_; have BK101 := n6_; have BK118 := n7_; have HB := n8_; clear n0_ n1_ n2_ n3_ n4_ n5_ n6_ n7_ n8_; (try clear hb); (try clear hb2); (try clear hk); (try clear hi); (try clear ho0); obtain ⟨Ao37, co37, eo37⟩ := Kd.R_slice HO121.out; subst eo37; obtain ⟨Ao38, co38, eo38⟩ := Kd.R_slice HO111.out; subst eo38) | ((with_reducible refine gate_callee (f := 34) rfl ?_); refine goesL_ (some 32) rfl rfl Try.func34 (by kernel_rfl) rfl #[.slice Ao37 t119.length co37, .slice Ao38 t109.length co38] rfl (pY38) ?_; (with_reducible refine (laws_eqStringS.calls k _ _ t119 _ _ t109 true _ ?side1 ?side2 ?side3 ?side4 A14.out).mono ?_); (case side1 => exact pC (Kd.R_reads' HO121.out).2.2); (case side2 => exact (Kd.R_reads' HO121.out).2.1); (case side3 => exact pC (Kd.R_reads' HO111.out).2.2); (case side4 => exact (Kd.R_reads' HO111.out).2.1); rintro e w' ⟨rfl, ⟨nd, rfl⟩⟩; refine ⟨_, rfl, ?_⟩))
     (try (rw [drewN_self w36]; generalize hq_ : World.drewN w36 _ = w36; have n0_ : Aside0 (Kd.R Kd.string 9 w36 w.heap.size (fun k_ => (((True ∧ some k_ ≠ (.slice Ao38 t109.length co38 : Value).ownBlock) ∧ some k_ ≠ (.slice Ao32 t112.length co32 : Value).ownBlock) ∧ some k_ ≠ (.slice Ao37 t119.length co37 : Value).ownBlock)) (.slice Ao26 t103.length co26) t103) := ⟨by rw [← hq_]; exact (pY44)⟩; have n1_ : Aside0 (Kd.S k56 56 w36 w.heap.size (fun k_ => ((((some k_ ≠ (.slice Ao26 t103.length co26 : Value).ownBlock ∧ some k_ ≠ (.slice Ao38 t109.length co38 : Value).ownBlock) ∧ some k_ ≠ (.slice Ao32 t112.length co32 : Value).ownBlock) ∧ some k_ ≠ (.slice Ao35 t115.length co35 : Value).ownBlock) ∧ some k_ ≠ (.slice Ao37 t119.length co37 : Value).ownBlock)) (.slice Ao27 t106.length co27) t106) := ⟨by rw [← hq_]; exact (pY45)⟩; have n2_ : Aside0 (Kd.R Kd.string 9 w36 w.heap.size (fun k_ => (((True ∧ some k_ ≠ (.slice Ao26 t103.length co26 : Value).ownBlock) ∧ some k_ ≠ (.slice Ao32 t112.length co32 : Value).ownBlock) ∧ some k_ ≠ (.slice Ao37 t119.length co37 : Value).ownBlock)) (.slice Ao38 t109.length co38) t109) := ⟨by rw [← hq_]; exact (pY46)⟩; have n3_ : Aside0 (Kd.R Kd.string 9 w36 w.heap.size (fun k_ => (((True ∧ some k_ ≠ (.slice Ao26 t103.length co26 : Value).ownBlock) ∧ some k_ ≠ (.slice Ao38 t109.length co38 : Value).ownBlock) ∧ some k_ ≠ (.slice Ao37 t119.length co37 : Value).ownBlock)) (.slice Ao32 t112.length co32) t112) := ⟨by rw [← hq_]; exact (pY47)⟩; have n4_ : Aside0 (Kd.S k56 56 w36 w.heap.size (fun k_ => ((((some k_ ≠ (.slice Ao32 t112.length co32 : Value).ownBlock ∧ some k_ ≠ (.slice Ao26 t103.length co26 : Value).ownBlock) ∧ some k_ ≠ (.slice Ao27 t106.length co27 : Value).ownBlock) ∧ some k_ ≠ (.slice Ao38 t109.length co38 : Value).ownBlock) ∧ some k_ ≠ (.slice Ao37 t119.length co37 : Value).ownBlock)) (.slice Ao35 t115.length co35) t115) := ⟨by rw [← hq_]; exact (pY48)⟩; have n5_ : Aside0 (Kd.R Kd.string 9 w36 w.heap.size (fun k_ => (((True ∧ some k_ ≠ (.slice Ao26 t103.length co26 : Value).ownBlock) ∧ some k_ ≠ (.slice Ao38 t109.length co38 : Value).ownBlock) ∧ some k_ ≠ (.slice Ao32 t112.length co32 : Value).ownBlock)) (.slice Ao37 t119.length co37) t119) := ⟨by rw [← hq_]; exact (pY49)⟩; have n6_ : Aside0 (w36.heap[gb101]? = some (.cells #[.slice A0_0 l0_0.length c0_0, .slice A0_1 l0_1.length c0_1] 26 (0, 0))) := ⟨by rw [← hq_]; exact (pY40)⟩; have n7_ : Aside0 (w36.heap[gb118]? = some (.cells #[.slice Ao32 t112.length co32, .slice Ao35 t115.length co35] 31 (0, 0))) := ⟨by rw [← hq_]; exact (pY42)⟩; have n8_ : Aside0 (Below w.heap.size w w36) := ⟨by rw [← hq_]; exact (pY34)⟩; clear HO105 HO108 HO111 HO114 HO117 HO121 BK101 BK118 HB hq_; have HO105 := n0_; have HO108 := n1_; have HO111 := n2_; have HO114 := n3_; have HO117 := n4_; have HO121 := n5_; have BK101 := n6_; have BK118 := n7_; have HB := n8_; clear n0_ n1_ n2_ n3_ n4_ n5_ n6_ n7_ n8_))
     have n0_ := Aside0.mk (Kd.R_drew HO105.out)
     have n1_ := Aside0.mk (Kd.S_drew HO108.out)
     have n2_ := Aside0.mk (Kd.R_drew HO111.out)
     have n3_ := Aside0.mk (Kd.R_drew HO114.out)
     have n4_ := Aside0.mk (Kd.S_drew HO117.out)
     have n5_ := Aside0.mk (Kd.R_drew HO121.out)
     have n6_ := Aside0.mk (blk_drew BK101.out)
     have n7_ := Aside0.mk (blk_drew BK118.out)
     have n8_ := Aside0.mk (below_drew1 HB.out)
     clear HO105
     clear HO108
     clear HO111
     clear HO114
     clear HO117
     clear HO121
     clear BK101
     clear BK118
     clear HB
     have HO105 := n0_
     have HO108 := n1_
     have HO111 := n2_
     have HO114 := n3_
     have HO117 := n4_
     have HO121 := n5_
     have BK101 := n6_
     have BK118 := n7_
     have HB := n8_
     clear n0_ n1_ n2_ n3_ n4_ n5_ n6_ n7_ n8_
     refine start_ (n := 5) (S := fun w' => w'.cell? ⟨gb118, 0, none⟩ = some (.slice Ao32 t112.length co32) ∧ w'.cell? ⟨gb118, 1, none⟩ = some (.slice Ao35 t115.length co35) ∧ w'.cell? ⟨gb101, 0, none⟩ = some (.slice A0_0 l0_0.length c0_0) ∧ w'.cell? ⟨gb101, 1, none⟩ = some (.slice A0_1 l0_1.length c0_1)) (ds := []) #[false, false, false, false, false] (by kernel_rfl) rfl rfl ⟨(blk_cell BK118.out 0).trans rfl, (blk_cell BK118.out 1).trans rfl, (blk_cell BK101.out 0).trans rfl, (blk_cell BK101.out 1).trans rfl⟩ (fun hHeld => ?_)
     generalize w36.drew = w39 at HO105 HO108 HO111 HO114 HO117 HO121 BK101 BK118 HB hHeld ⊢
     refine tK4_ (i := 0) (N := some 34) #[true, false, false, false, false] ?_
     refine tK4_ (i := 1) (N := some 35) #[true, true, false, false, false] ?_
     refine one_ (i := 2) (N := some 36) #[true, true, true, false, false] rfl rfl (by kernel_rfl) (by decide) (fun K hK => ?_)
     refine goes_ Try.func23 (by kernel_rfl) rfl #[.agg #[.slice A0_0 l0_0.length c0_0, .slice A0_1 l0_1.length c0_1]] (by rfl) rfl rfl (pY38) ?_
     with_reducible refine (laws_toShareBook.calls k _ _ l0_0 _ _ l0_1 t123 t126 _ ?side1 ?side2 ?side3 ?side4 A16.out).mono ?_
     (case side1 => exact pC (Kd.C_below HR0_0.out HB.out))
     (case side2 => exact HC0_0.out)
     (case side3 => exact pC (Kd.C_below HR0_1.out HB.out))
     (case side4 => exact HC0_1.out)
     rintro e w40 ⟨v124, v127, rfl, ho0, ho1, hb⟩
     refine ⟨_, rfl, ?_⟩
     have n0_ := Aside0.mk (Kd.R_elder' (pY44) (Kd.R_base ho0) hb)
     have n1_ := Aside0.mk (Kd.S_mono (Kd.S_told (Kd.S_told (Kd.S_old (pY45) hb) (Kd.R_base ho0)) (Kd.S_base ho1)) (fun _ h_ => h_.1))
     have n2_ := Aside0.mk (Kd.R_elder' (pY46) (Kd.R_base ho0) hb)
     have n3_ := Aside0.mk (Kd.R_elder' (pY47) (Kd.R_base ho0) hb)
     have n4_ := Aside0.mk (Kd.S_mono (Kd.S_told (Kd.S_told (Kd.S_old (pY48) hb) (Kd.R_base ho0)) (Kd.S_base ho1)) (fun _ h_ => h_.1))
     have n5_ := Aside0.mk (Kd.R_elder' (pY49) (Kd.R_base ho0) hb)
     have n6_ := Aside0.mk (Kd.R_lower (Kd.R_new' (Kd.R_new' (Kd.R_new' (Kd.R_new' ho0 (Kd.R_lt (pY44))) (Kd.R_lt (pY46))) (Kd.R_lt (pY47))) (Kd.R_lt (pY49))) (below_size (pY34)))
     have n7_ := Aside0.mk (Kd.S_lower (Kd.S_new' (Kd.S_new' (Kd.S_new' (Kd.S_new' (Kd.S_new' (Kd.S_new' ho1 (Kd.R_lt (pY44))) (Kd.S_lt (pY45))) (Kd.R_lt (pY46))) (Kd.R_lt (pY47))) (Kd.S_lt (pY48))) (Kd.R_lt (pY49))) (below_size (pY34)))
     have n8_ := Aside0.mk (blk_below (g := gb101) (o := .cells #[.slice A0_0 l0_0.length c0_0, .slice A0_1 l0_1.length c0_1] 26 (0, 0)) (pY40) hb)
     have n9_ := Aside0.mk (blk_below (g := gb118) (o := .cells #[.slice Ao32 t112.length co32, .slice Ao35 t115.length co35] 31 (0, 0)) (pY42) hb)
     have n10_ := Aside0.mk (below_step (pY34) hb)
     clear HO105
     clear HO108
     clear HO111
     clear HO114
     clear HO117
     clear HO121
     clear BK101
     clear BK118
     clear HB
     have HO105 := n0_
     have HO108 := n1_
     have HO111 := n2_
     have HO114 := n3_
     have HO117 := n4_
     have HO121 := n5_
     have HO125 := n6_
     have HO128 := n7_
     have BK101 := n8_
     have BK118 := n9_
     have HB := n10_
     clear n0_ n1_ n2_ n3_ n4_ n5_ n6_ n7_ n8_ n9_ n10_
     (try clear hb)
     (try clear hb2)
     (try clear hk)
     (try clear hi)
     (try clear ho0)
     (try clear ho1)
     obtain ⟨Ao41, co41, eo41⟩ := Kd.R_slice HO125.out
     (first | subst eo41 | (injection eo41 with f1_ f2_ f3_; have f4_ := f1_.symm; have f5_ := f3_.symm; clear f1_ f2_ f3_; subst f4_; subst f5_))
     obtain ⟨Ao42, co42, eo42⟩ := Kd.S_slice HO128.out
     (first | subst eo42 | (injection eo42 with f1_ f2_ f3_; have f4_ := f1_.symm; have f5_ := f3_.symm; clear f1_ f2_ f3_; subst f4_; subst f5_))
     refine hK.out _ _ ⟨(blk_cell BK118.out 0).trans rfl, (blk_cell BK118.out 1).trans rfl, (blk_cell BK101.out 0).trans rfl, (blk_cell BK101.out 1).trans rfl⟩ (fun hHeld => ?_)
     clear hK K
     refine norm_ (a' := ?_) ?_ ?_
     rotate_left
     ·show Act.put _ (some 36) _ = _
      simp only [pW]
      rfl
     refine one_ (i := 3) (N := some 37) #[true, true, true, true, false] rfl rfl (by kernel_rfl) (by decide) (fun K hK => ?_)
     refine goes_ Try.func25 (by kernel_rfl) rfl #[.agg #[.slice Ao32 t112.length co32, .slice Ao35 t115.length co35], .agg #[.slice Ao41 t123.length co41, .slice Ao42 t126.length co42]] (by rfl) rfl rfl (pY38) ?_
     with_reducible refine (laws_eqShareBook.calls k _ _ t112 _ _ t115 _ _ t123 _ _ t126 true _ ?side1 ?side2 ?side3 ?side4 ?side5 ?side6 ?side7 ?side8 A17.out).mono ?_
     (case side1 => exact pC (Kd.R_reads' HO114.out).2.2)
     (case side2 => exact (Kd.R_reads' HO114.out).2.1)
     (case side3 => exact pC (Kd.S_reads' HO117.out).2.2)
     (case side4 => exact (Kd.S_reads' HO117.out).2.1)
     (case side5 => exact pC (Kd.R_reads' HO125.out).2.2)
     (case side6 => exact (Kd.R_reads' HO125.out).2.1)
     (case side7 => exact pC (Kd.S_reads' HO128.out).2.2)
     (case side8 => exact (Kd.S_reads' HO128.out).2.1)
     rintro e w43 ⟨rfl, hb⟩
     refine ⟨_, rfl, ?_⟩
     have n0_ := Aside0.mk (Kd.R_below (pY44) hb)
     have n1_ := Aside0.mk (Kd.S_below (pY45) hb)
     have n2_ := Aside0.mk (Kd.R_below (pY46) hb)
     have n3_ := Aside0.mk (Kd.R_below (pY47) hb)
     have n4_ := Aside0.mk (Kd.S_below (pY48) hb)
     have n5_ := Aside0.mk (Kd.R_below (pY49) hb)
     have n6_ := Aside0.mk (Kd.R_below (by (with_reducible repeat (first | apply Kd.R_alloc | apply Kd.R_drewN | apply Kd.R_drew)); exact HO125.out) hb)
     have n7_ := Aside0.mk (Kd.S_below (by (with_reducible repeat (first | apply Kd.S_alloc | apply Kd.S_drewN | apply Kd.S_drew)); exact HO128.out) hb)
     have n8_ := Aside0.mk (blk_below (g := gb101) (o := .cells #[.slice A0_0 l0_0.length c0_0, .slice A0_1 l0_1.length c0_1] 26 (0, 0)) (pY40) hb)
     have n9_ := Aside0.mk (blk_below (g := gb118) (o := .cells #[.slice Ao32 t112.length co32, .slice Ao35 t115.length co35] 31 (0, 0)) (pY42) hb)
     have n10_ := Aside0.mk (below_step (pY34) hb)
     clear HO105
     clear HO108
     clear HO111
     clear HO114
     clear HO117
     clear HO121
     clear HO125
     clear HO128
     clear BK101
     clear BK118
     clear HB
     have HO105 := n0_
     have HO108 := n1_
     have HO111 := n2_
     have HO114 := n3_
     have HO117 := n4_
     have HO121 := n5_
     have HO125 := n6_
     have HO128 := n7_
     have BK101 := n8_
     have BK118 := n9_
     have HB := n10_
     clear n0_ n1_ n2_ n3_ n4_ n5_ n6_ n7_ n8_ n9_ n10_
     (try clear hb)
     (try clear hb2)
     (try clear hk)
     (try clear hi)
     refine hK.out _ _ ⟨(blk_cell BK118.out 0).trans rfl, (blk_cell BK118.out 1).trans rfl, (blk_cell BK101.out 0).trans rfl, (blk_cell BK101.out 1).trans rfl⟩ (fun hHeld => ?_)
     clear hK K
     refine norm_ (a' := ?_) ?_ ?_
     rotate_left
     ·show Act.put _ (some 37) _ = _
      simp only [pW]
      rfl
     refine pU0 (i := 4) (N := some 38) #[true, true, true, true, true] ?_
     refine done_ (by kernel_rfl) ?_
     have hcz44_0 : w43.cell? ⟨gb118, 0, none⟩ = some (.slice Ao32 t112.length co32) := (blk_cell BK118.out 0).trans rfl
     have hcz44_1 : w43.cell? ⟨gb118, 1, none⟩ = some (.slice Ao35 t115.length co35) := (blk_cell BK118.out 1).trans rfl
     have hfz44_0 := blk_frozen BK118.out 0
     have hfz44_1 := blk_frozen BK118.out 1
     go_upto_region 16 with (first | ((with_reducible refine gate_callee (f := 39) rfl ?_); refine goesL_ (some 41) rfl rfl Try.func39 (by kernel_rfl) rfl #[.agg #[.slice Ao32 t112.length co32, .slice Ao35 t115.length co35], .int .i64 1] rfl (pY38) ?_; (with_reducible refine (laws_markShareBook.calls k (fun k_ => some k_ = (.slice Ao32 t112.length co32 : Value).ownBlock) (.slice Ao32 t112.length co32) t112 ?pN_ (.slice Ao35 t115.length co35) t115 1 t130 w _ ?side1 ?side2 ?side3 ?side4 A19.out).mono ?_); (case side1 => repeat (first | (with_reducible first | exact HB.out | apply below_alloc | apply pw_below_drewN | apply below_drew1 | refine below_set ?_ GE101.out | refine below_set ?_ GE118.out) | exact HB.out)); (case side2 => exact Kd.R_tight rfl HO114.out); (case side3 => exact Kd.S_bound (HO117.out)); (case side4 => exact fun k_ h_ e_ => (h_.1.1.1.1.1.1.1) e_); rintro e w45 ⟨rfl, hb, hkp⟩; refine ⟨_, rfl, ?_⟩; have n0_ := Aside0.mk (blk_kept (pY40) hkp (fun hs_ => Or.elim hs_ (fun e_ => (fun e_ => (Kd.R_ne HO114.out BK101.out (by decide)) e_) e_) (fun e_ => (fun hs_ => by (obtain ⟨_, _, _, q_, hq_, c_, hc_⟩ := hs_; have hb_ := (pY40); rw [hb_] at hc_; injection hc_ with hc_; injection hc_ with _ ht_ _; subst ht_; exact absurd hq_ (by decide))) e_))); have n1_ := Aside0.mk (Kd.R_mono (ok' := fun k_ => some k_ ≠ (.slice Ao38 t109.length co38 : Value).ownBlock ∧ some k_ ≠ (.slice Ao37 t119.length co37 : Value).ownBlock ∧ some k_ ≠ (.slice Ao41 t123.length co41 : Value).ownBlock) (Kd.R_keptB ((Kd.R_tight2 rfl HO105.out)) hkp (fun k_ hk_ hs_ => Or.elim hs_ (fun e_ => (hk_.2.1.1.2) e_) (fun e_ => (fun hs_ => (hs_.1.1.1.1.1.1.2) hk_.1) e_))) (fun k_ hk_ => ⟨hk_.1.2.1.1.1.2, hk_.1.2.1.2, hk_.1.2.2⟩)); have n2_ := Aside0.mk (Kd.R_mono (ok' := fun k_ => some k_ ≠ (.slice Ao26 t103.length co26 : Value).ownBlock ∧ some k_ ≠ (.slice Ao37 t119.length co37 : Value).ownBlock ∧ some k_ ≠ (.slice Ao41 t123.length co41 : Value).ownBlock) (Kd.R_keptB ((Kd.R_tight2 rfl HO111.out)) hkp (fun k_ hk_ hs_ => Or.elim hs_ (fun e_ => (hk_.2.1.1.2) e_) (fun e_ => (fun hs_ => (hs_.1.1.1.1.2) hk_.1) e_))) (fun k_ hk_ => ⟨hk_.1.2.1.1.1.2, hk_.1.2.1.2, hk_.1.2.2⟩)); have n3_ := Aside0.mk (blk_kept (pY42) hkp (fun hs_ => Or.elim hs_ (fun e_ => (fun e_ => (Kd.R_ne HO114.out BK118.out (by decide)) e_) e_) (fun e_ => (fun hs_ => by (obtain ⟨_, _, _, q_, hq_, c_, hc_⟩ := hs_; have hb_ := (pY42); rw [hb_] at hc_; injection hc_ with hc_; injection hc_ with _ ht_ _; subst ht_; exact absurd hq_ (by decide))) e_))); have n4_ := Aside0.mk (Kd.R_mono (ok' := fun k_ => some k_ ≠ (.slice Ao26 t103.length co26 : Value).ownBlock ∧ some k_ ≠ (.slice Ao38 t109.length co38 : Value).ownBlock ∧ some k_ ≠ (.slice Ao41 t123.length co41 : Value).ownBlock) (Kd.R_keptB ((Kd.R_tight2 rfl HO121.out)) hkp (fun k_ hk_ hs_ => Or.elim hs_ (fun e_ => (hk_.2.1.2) e_) (fun e_ => (fun hs_ => (hs_.1.1.1.2) hk_.1) e_))) (fun k_ hk_ => ⟨hk_.1.2.1.1.1.2, hk_.1.2.1.1.2, hk_.1.2.2⟩)); have n5_ := Aside0.mk (Kd.R_mono (ok' := fun k_ => some k_ ≠ (.slice Ao26 t103.length co26 : Value).ownBlock ∧ some k_ ≠ (.slice Ao38 t109.length co38 : Value).ownBlock ∧ some k_ ≠ (.slice Ao37 t119.length co37 : Value).ownBlock) (Kd.R_keptB ((Kd.R_tight2 rfl HO125.out)) hkp (fun k_ hk_ hs_ => Or.elim hs_ (fun e_ => (hk_.2.1.2) e_) (fun e_ => (fun hs_ => (hs_.1.1.2) hk_.1) e_))) (fun k_ hk_ => ⟨hk_.1.2.1.1.1.2, hk_.1.2.1.1.2, hk_.1.2.2⟩)); have n6_ := Aside0.mk (hb); clear BK101; clear HO105; clear HO111; clear BK118; clear HO121; clear HO125; clear HB; clear HO108; clear HO128; clear HO114; clear HO117; have BK101 := n0_; have HO105 := n1_; have HO111 := n2_; have BK118 := n3_; have HO121 := n4_; have HO125 := n5_; have HB := n6_; clear n0_ n1_ n2_ n3_ n4_ n5_ n6_; (try clear hb); (try clear hkp)))
     (try simp only [Act.put, List.setIfInBounds_toArray, List.set_cons_zero, List.set_cons_succ])
     go_cut [49] (fun v49 wc => ∃ (kq : Nat) (x49_19 : Bool), v49 = .bool x49_19 ∧ Aside0 (laws_FnExactShareWaits.j0 kq a1 t109 t119 x49_19 l0_0 l0_1 = some r) ∧ Aside0 (kq ≤ k) ∧ Aside0 (Kd.R Kd.string 9 wc w.heap.size (fun k_ => some k_ ≠ ((.slice Ao37 t119.length co37) : Value).ownBlock) (.slice Ao38 t109.length co38) t109) ∧ Aside0 (Kd.R Kd.string 9 wc w.heap.size (fun k_ => some k_ ≠ ((.slice Ao38 t109.length co38) : Value).ownBlock) (.slice Ao37 t119.length co37) t119) ∧ Aside0 (wc.heap[gb101]? = some (.cells #[(.slice A0_0 l0_0.length c0_0), (.slice A0_1 l0_1.length c0_1)] 26 (0, 0))) ∧ Aside0 (Below w.heap.size w wc))
     case first =>
      have H := HC20.out
      clear HC20
      by_cases c46 : t130 < 0
      ·rw [if_pos c46] at H
       have c46b0 : decide (t130 < 0) = true := decide_eq_true c46
       clear c46
       (first | rw [c46b0] | (simp only [i64_w, i32_w]; rw [c46b0]) | skip)
       have H' := Aside0.mk H
       clear H
       go_wp2
       go_meet
       case rel => exact ⟨_, (true), (pY59), H', ⟨by first | omega | exact Nat.le_refl _⟩, ⟨by (with_reducible repeat (first | apply Kd.R_alloc | apply Kd.R_drewN | apply Kd.R_drew)); exact Kd.R_mono HO111.out (fun _ hk => hk.2.1)⟩, ⟨by (with_reducible repeat (first | apply Kd.R_alloc | apply Kd.R_drewN | apply Kd.R_drew)); exact Kd.R_mono HO121.out (fun _ hk => hk.2.1)⟩, ⟨by (with_reducible repeat (first | refine blk_drewN ?_ _ | refine blk_drew ?_ | refine blk_alloc ?_ _)); exact BK101.out⟩, ⟨pY34⟩⟩
      ·rw [if_neg c46] at H
       have c46b0 : decide (t130 < 0) = false := decide_eq_false c46
       clear c46
       (first | rw [c46b0] | (simp only [i64_w, i32_w]; rw [c46b0]) | skip)
       replace H := Option.bind_eq_some_iff.mp H
       obtain ⟨t131, A470, H⟩ := H
       replace H : (laws_FnExactShareWaits.j0 k a1 t109 t119 (!t131) l0_0 l0_1) = some r := H
       have A47 := Aside0.mk A470
       clear A470
       have H' := Aside0.mk H
       clear H
       go_wp2_with (first | (go_at_call 34; (with_reducible refine (laws_eqStringS.calls k _ _ t119 _ _ t109 t131 _ ?side1 ?side2 ?side3 ?side4 A47.out).mono ?_); (case side1 => exact pC (Kd.R_reads' HO121.out).2.2); (case side2 => exact (Kd.R_reads' HO121.out).2.1); (case side3 => exact pC (Kd.R_reads' HO111.out).2.2); (case side4 => exact (Kd.R_reads' HO111.out).2.1); rintro e w' ⟨rfl, ⟨nd, rfl⟩⟩))
       go_meet
       case rel => exact ⟨_, (!t131), (pY59), H', ⟨by first | omega | exact Nat.le_refl _⟩, ⟨by (with_reducible repeat (first | apply Kd.R_alloc | apply Kd.R_drewN | apply Kd.R_drew)); exact Kd.R_mono HO111.out (fun _ hk => hk.2.1)⟩, ⟨by (with_reducible repeat (first | apply Kd.R_alloc | apply Kd.R_drewN | apply Kd.R_drew)); exact Kd.R_mono HO121.out (fun _ hk => hk.2.1)⟩, ⟨by (with_reducible repeat (first | refine blk_drewN ?_ _ | refine blk_drew ?_ | refine blk_alloc ?_ _)); exact BK101.out⟩, ⟨pY34⟩⟩
     case rest =>
      clear HC20
      try clear c1
      try clear c2
      try clear p2
      try clear c3
      try clear c3b0
      try clear c3b1
      try clear c4
      try clear c6
      try clear c6b0
      try clear c9
      try clear c15
      try clear c18
      try clear c21
      try clear c23
      try clear c25
      try clear c33
      try clear c34
      try clear c37
      try clear c38
      try clear c39
      try clear c46
      try clear c46b0
      try clear hcz22_0
      try clear hcz22_1
      try clear hcz24_0
      try clear hcz24_1
      try clear hcz29_0
      try clear hcz29_1
      try clear hcz34_0
      try clear hcz34_1
      try clear hcz44_0
      try clear hcz44_1
      try clear hcz8_0
      try clear hcz8_1
      try clear hfz22_0
      try clear hfz22_1
      try clear hfz24_0
      try clear hfz24_1
      try clear hfz29_0
      try clear hfz29_1
      try clear hfz34_0
      try clear hfz34_1
      try clear hfz44_0
      try clear hfz44_1
      try clear hfz8_0
      try clear hfz8_1
      obtain ⟨kq, x49_19, rfl, HA, HJ19, HO_6, HO_8, BK101, HB⟩ := hcut
      cases kq with
      | zero => exact absurd HA.out (by simp [laws_FnExactShareWaits.j0])
      | succ kj19 =>
       have H := HA.out
       clear HA
       simp only [laws_FnExactShareWaits.j0] at H
       by_cases c48 : x49_19 = true
       ·subst c48
        have H1 : (some false) = some r := by rw [if_pos rfl] at H; exact H
        clear H
        have H := H1
        clear H1
        obtain rfl := Option.some.inj H
        go_wp2
        go_ret
        exact ⟨by first | rfl | (simp [errW_none, errW_some] <;> rfl) | (simp [*, errW_none, errW_some] <;> rfl), pY37⟩
       ·replace c48 := Bool.eq_false_iff.mpr c48
        subst c48
        have H1 : ((laws_markStringS.f kj19 t119 1).bind fun bt132 => ((laws_heldStringS.f kj19 bt132.2 1).bind fun t134 => (if t134 < 0 then (some false) else (if t134 = bt132.1 then ((laws_toShareBook.f kj19 l0_0 l0_1).bind fun bt135 => ((impl_ShareWaits.f kj19 bt135.1 bt135.2 a1).bind fun t141 => ((laws_eqStringS.f kj19 t141 t109).bind fun t144 => (if t144 = true then ((laws_heldStringS.f kj19 bt132.2 1).bind fun t145 => (if t145 < 0 then (some false) else (if t145 = bt132.1 then (some true) else (some false)))) else (some false))))) else (some false))))) = some r := by rw [if_neg (show ¬ (false = true) by decide)] at H; exact H
        clear H
        have H := H1
        clear H1
        replace H := Option.bind_eq_some_iff.mp H
        obtain ⟨⟨t132, t133⟩, A490, H⟩ := H
        replace H : ((laws_heldStringS.f kj19 t133 1).bind fun t134 => (if t134 < 0 then (some false) else (if t134 = t132 then ((laws_toShareBook.f kj19 l0_0 l0_1).bind fun bt135 => ((impl_ShareWaits.f kj19 bt135.1 bt135.2 a1).bind fun t141 => ((laws_eqStringS.f kj19 t141 t109).bind fun t144 => (if t144 = true then ((laws_heldStringS.f kj19 t133 1).bind fun t145 => (if t145 < 0 then (some false) else (if t145 = t132 then (some true) else (some false)))) else (some false))))) else (some false)))) = some r := H
        have A49 := Aside0.mk A490
        clear A490
        replace H := Option.bind_eq_some_iff.mp H
        obtain ⟨t134, A500, H⟩ := H
        replace H : (if t134 < 0 then (some false) else (if t134 = t132 then ((laws_toShareBook.f kj19 l0_0 l0_1).bind fun bt135 => ((impl_ShareWaits.f kj19 bt135.1 bt135.2 a1).bind fun t141 => ((laws_eqStringS.f kj19 t141 t109).bind fun t144 => (if t144 = true then ((laws_heldStringS.f kj19 t133 1).bind fun t145 => (if t145 < 0 then (some false) else (if t145 = t132 then (some true) else (some false)))) else (some false))))) else (some false))) = some r := H
        have A50 := Aside0.mk A500
        clear A500
        by_cases c51 : t134 < 0
        ·rw [if_pos c51] at H
         have c51b0 : decide (t134 < 0) = true := decide_eq_true c51
         clear c51
         obtain rfl := Option.some.inj H
         go_wp2_with (first | ((with_reducible refine gate_callee (f := 40) rfl ?_); refine goesL_ (some 52) rfl rfl Try.func40 (by kernel_rfl) rfl #[.slice Ao37 t119.length co37, .int .i64 1] rfl (pY38) ?_; (with_reducible refine (laws_markStringS.calls kj19 (fun k_ => some k_ = (.slice Ao37 t119.length co37 : Value).ownBlock) (.slice Ao37 t119.length co37) t119 1 t132 t133 w _ ?side1 ?side2 A49.out).mono ?_); (case side1 => repeat (first | (with_reducible first | exact HB.out | apply below_alloc | apply pw_below_drewN | apply below_drew1 | refine below_set ?_ GE101.out) | exact HB.out)); (case side2 => exact Kd.R_tight rfl HO_8.out); rintro e w52 ⟨rfl, hy0, hb, hkp⟩; refine ⟨_, rfl, ?_⟩; have n0_ := Aside0.mk (Kd.R_mono (ok' := fun k_ => some k_ ≠ (.slice Ao37 t119.length co37 : Value).ownBlock) (Kd.R_keptB (HO_6.out) hkp (fun k_ hk_ hs_ => (hk_) hs_)) (fun k_ hk_ => hk_.1)); have n1_ := Aside0.mk (Kd.R_reok rfl hy0 (fun k_ e_ => HO_8.out.1 k_ e_)); have n2_ := Aside0.mk (blk_kept (pY40) hkp (fun hs_ => (fun e_ => (Kd.R_ne HO_8.out BK101.out (by decide)) e_) hs_)); have n3_ := Aside0.mk (hb); clear HO_6; clear HO_8; clear BK101; clear HB; have HO_6 := n0_; have HO_8 := n1_; have BK101 := n2_; have HB := n3_; clear n0_ n1_ n2_ n3_; (try clear hb); (try clear hkp); (try clear hy0)) | ((with_reducible refine gate_callee (f := 41) rfl ?_); refine goesL_ (some 55) rfl rfl Try.func41 (by kernel_rfl) rfl #[.slice Ao37 t133.length co37, .int .i64 1] rfl (pY25) ?_; (with_reducible refine (laws_heldStringS.calls kj19 _ _ t133 1 t134 _ ?side1 ?side2 A50.out).mono ?_); (case side1 => exact pC (Kd.R_reads' HO_8.out).2.2); (case side2 => rw [show t133.length = t119.length from (Kd.R_reads' HO_8.out).1.symm]; exact (Kd.R_reads' HO_8.out).2.1); rintro e w53 ⟨rfl, hb⟩; refine ⟨_, rfl, ?_⟩; have n0_ := Aside0.mk (Kd.R_below (pY54) hb); have n1_ := Aside0.mk (Kd.R_below (pY55) hb); have n2_ := Aside0.mk (blk_below (g := gb101) (o := .cells #[.slice A0_0 l0_0.length c0_0, .slice A0_1 l0_1.length c0_1] 26 (0, 0)) (pY40) hb); have n3_ := Aside0.mk (below_step (pY37) hb); clear HO_6; clear HO_8; clear BK101; clear HB; have HO_6 := n0_; have HO_8 := n1_; have BK101 := n2_; have HB := n3_; clear n0_ n1_ n2_ n3_; (try clear hb); (try clear hb2); (try clear hk); (try clear hi)))
         go_ret
         exact ⟨by first | rfl | (simp [errW_none, errW_some] <;> rfl) | (simp [*, errW_none, errW_some] <;> rfl), pY37⟩
        ·rw [if_neg c51] at H
         have c51b0 : decide (t134 < 0) = false := decide_eq_false c51
         clear c51
         by_cases c54 : t134 = t132
         ·rw [if_pos c54] at H
          have c54b0 : (t134 == t132) = true := beq_iff_eq.mpr c54
          have c54b1 : (t134 != t132) = false := bne_eq_false_iff_eq.mpr c54
          clear c54
          replace H := Option.bind_eq_some_iff.mp H
          obtain ⟨⟨t135, t138⟩, A550, H⟩ := H
          replace H : ((impl_ShareWaits.f kj19 t135 t138 a1).bind fun t141 => ((laws_eqStringS.f kj19 t141 t109).bind fun t144 => (if t144 = true then ((laws_heldStringS.f kj19 t133 1).bind fun t145 => (if t145 < 0 then (some false) else (if t145 = t132 then (some true) else (some false)))) else (some false)))) = some r := H
          have A55 := Aside0.mk A550
          clear A550
          replace H := Option.bind_eq_some_iff.mp H
          obtain ⟨t141, A560, H⟩ := H
          replace H : ((laws_eqStringS.f kj19 t141 t109).bind fun t144 => (if t144 = true then ((laws_heldStringS.f kj19 t133 1).bind fun t145 => (if t145 < 0 then (some false) else (if t145 = t132 then (some true) else (some false)))) else (some false))) = some r := H
          have A56 := Aside0.mk A560
          clear A560
          replace H := Option.bind_eq_some_iff.mp H
          obtain ⟨t144, A570, H⟩ := H
          replace H : (if t144 = true then ((laws_heldStringS.f kj19 t133 1).bind fun t145 => (if t145 < 0 then (some false) else (if t145 = t132 then (some true) else (some false)))) else (some false)) = some r := H
          have A57 := Aside0.mk A570
          clear A570
          by_cases c58 : t144 = true
          ·subst c58
           have H1 : ((laws_heldStringS.f kj19 t133 1).bind fun t145 => (if t145 < 0 then (some false) else (if t145 = t132 then (some true) else (some false)))) = some r := by rw [if_pos rfl] at H; exact H
           clear H
           have H := H1
           clear H1
           replace H := Option.bind_eq_some_iff.mp H
           obtain ⟨t145, A590, H⟩ := H
           replace H : (if t145 < 0 then (some false) else (if t145 = t132 then (some true) else (some false))) = some r := H
           have A59 := Aside0.mk A590
           clear A590
           by_cases c60 : t145 < 0
           ·rw [if_pos c60] at H
            have c60b0 : decide (t145 < 0) = true := decide_eq_true c60
            clear c60
            obtain rfl := Option.some.inj H
            go_wp2_with (first | ((with_reducible refine gate_callee (f := 40) rfl ?_); refine goesL_ (some 52) rfl rfl Try.func40 (by kernel_rfl) rfl #[.slice Ao37 t119.length co37, .int .i64 1] rfl (pY38) ?_; (with_reducible refine (laws_markStringS.calls kj19 (fun k_ => some k_ = (.slice Ao37 t119.length co37 : Value).ownBlock) (.slice Ao37 t119.length co37) t119 1 t132 t133 w _ ?side1 ?side2 A49.out).mono ?_); (case side1 => repeat (first | (with_reducible first | exact HB.out | apply below_alloc | apply pw_below_drewN | apply below_drew1 | refine below_set ?_ GE101.out) | exact HB.out)); (case side2 => exact Kd.R_tight rfl HO_8.out); rintro e w61 ⟨rfl, hy0, hb, hkp⟩; refine ⟨_, rfl, ?_⟩; have n0_ := Aside0.mk (Kd.R_mono (ok' := fun k_ => some k_ ≠ (.slice Ao37 t119.length co37 : Value).ownBlock) (Kd.R_keptB (HO_6.out) hkp (fun k_ hk_ hs_ => (hk_) hs_)) (fun k_ hk_ => hk_.1)); have n1_ := Aside0.mk (Kd.R_reok rfl hy0 (fun k_ e_ => HO_8.out.1 k_ e_)); have n2_ := Aside0.mk (blk_kept (pY40) hkp (fun hs_ => (fun e_ => (Kd.R_ne HO_8.out BK101.out (by decide)) e_) hs_)); have n3_ := Aside0.mk (hb); clear HO_6; clear HO_8; clear BK101; clear HB; have HO_6 := n0_; have HO_8 := n1_; have BK101 := n2_; have HB := n3_; clear n0_ n1_ n2_ n3_; (try clear hb); (try clear hkp); (try clear hy0)) | ((with_reducible refine gate_callee (f := 41) rfl ?_); refine goesL_ (some 55) rfl rfl Try.func41 (by kernel_rfl) rfl #[.slice Ao37 t133.length co37, .int .i64 1] rfl (pY25) ?_; (with_reducible refine (laws_heldStringS.calls kj19 _ _ t133 1 t134 _ ?side1 ?side2 A50.out).mono ?_); (case side1 => exact pC (Kd.R_reads' HO_8.out).2.2); (case side2 => rw [show t133.length = t119.length from (Kd.R_reads' HO_8.out).1.symm]; exact (Kd.R_reads' HO_8.out).2.1); rintro e w62 ⟨rfl, hb⟩; refine ⟨_, rfl, ?_⟩; have n0_ := Aside0.mk (Kd.R_below (pY54) hb); have n1_ := Aside0.mk (Kd.R_below (pY55) hb); have n2_ := Aside0.mk (blk_below (g := gb101) (o := .cells #[.slice A0_0 l0_0.length c0_0, .slice A0_1 l0_1.length c0_1] 26 (0, 0)) (pY40) hb); have n3_ := Aside0.mk (below_step (pY37) hb); clear HO_6; clear HO_8; clear BK101; clear HB; have HO_6 := n0_; have HO_8 := n1_; have BK101 := n2_; have HB := n3_; clear n0_ n1_ n2_ n3_; (try clear hb); (try clear hb2); (try clear hk); (try clear hi); have hcz63_0 : w62.cell? ⟨gb101, 0, none⟩ = some (.slice A0_0 l0_0.length c0_0) := (blk_cell BK101.out 0).trans rfl; have hcz63_1 : w62.cell? ⟨gb101, 1, none⟩ = some (.slice A0_1 l0_1.length c0_1) := (blk_cell BK101.out 1).trans rfl; have hfz63_0 := blk_frozen BK101.out 0; have hfz63_1 := blk_frozen BK101.out 1) | ((with_reducible refine gate_callee (f := 23) rfl ?_); refine goesL_ (some 62) rfl rfl Try.func23 (by kernel_rfl) rfl #[.agg #[.slice A0_0 l0_0.length c0_0, .slice A0_1 l0_1.length c0_1]] rfl (pY38) ?_; (with_reducible refine (laws_toShareBook.calls kj19 _ _ l0_0 _ _ l0_1 t135 t138 _ ?side1 ?side2 ?side3 ?side4 A55.out).mono ?_); (case side1 => exact pC (Kd.C_below HR0_0.out HB.out)); (case side2 => exact HC0_0.out); (case side3 => exact pC (Kd.C_below HR0_1.out HB.out)); (case side4 => exact HC0_1.out); rintro e w64 ⟨v136, v139, rfl, ho0, ho1, hb⟩; refine ⟨_, rfl, ?_⟩; have n0_ := Aside0.mk (Kd.R_elder' (pY54) (Kd.R_base ho0) hb); have n1_ := Aside0.mk (Kd.R_elder' (pY55) (Kd.R_base ho0) hb); have n2_ := Aside0.mk (Kd.R_lower (Kd.R_new' (Kd.R_new' ho0 (Kd.R_lt (pY54))) (Kd.R_lt (pY55))) (below_size (pY37))); have n3_ := Aside0.mk (Kd.S_lower (Kd.S_new' (Kd.S_new' ho1 (Kd.R_lt (pY54))) (Kd.R_lt (pY55))) (below_size (pY37))); have n4_ := Aside0.mk (blk_below (g := gb101) (o := .cells #[.slice A0_0 l0_0.length c0_0, .slice A0_1 l0_1.length c0_1] 26 (0, 0)) (pY40) hb); have n5_ := Aside0.mk (below_step (pY37) hb); clear HO_6; clear HO_8; clear BK101; clear HB; have HO_6 := n0_; have HO_8 := n1_; have HO137 := n2_; have HO140 := n3_; have BK101 := n4_; have HB := n5_; clear n0_ n1_ n2_ n3_ n4_ n5_; (try clear hb); (try clear hb2); (try clear hk); (try clear hi); (try clear ho0); (try clear ho1); obtain ⟨Ao65, co65, eo65⟩ := Kd.R_slice HO137.out; subst eo65; obtain ⟨Ao66, co66, eo66⟩ := Kd.S_slice HO140.out; subst eo66) | ((with_reducible refine gate_callee (f := 38) rfl ?_); refine goesL_ (some 64) rfl rfl Try.func38 (by kernel_rfl) rfl #[.agg #[.slice Ao65 t135.length co65, .slice Ao66 t138.length co66], .string a1] rfl (pY38) ?_; (with_reducible refine (impl_ShareWaits.calls kj19 _ _ t135 _ _ t138 a1 t141 _ ?side1 ?side2 ?side3 ?side4 A56.out).mono ?_); (case side1 => exact pC (Kd.R_reads' HO137.out).2.2); (case side2 => exact (Kd.R_reads' HO137.out).2.1); (case side3 => exact pC (Kd.S_reads' HO140.out).2.2); (case side4 => exact (Kd.S_reads' HO140.out).2.1); rintro e w67 ⟨v142, rfl, ho0, hb⟩; refine ⟨_, rfl, ?_⟩; have n0_ := Aside0.mk (Kd.R_elder' (pY54) (Kd.R_base ho0) hb); have n1_ := Aside0.mk (Kd.R_elder' (pY55) (Kd.R_base ho0) hb); have n2_ := Aside0.mk (Kd.R_elder' (pY50) (Kd.R_base ho0) hb); have n3_ := Aside0.mk (Kd.S_elder' (pY51) (Kd.R_base ho0) hb); have n4_ := Aside0.mk (Kd.R_lower (Kd.R_new' (Kd.R_new' (Kd.R_new' ho0 (Kd.R_lt (pY54))) (Kd.R_lt (pY55))) (Kd.R_lt (pY50))) (below_size (pY37))); have n5_ := Aside0.mk (blk_below (g := gb101) (o := .cells #[.slice A0_0 l0_0.length c0_0, .slice A0_1 l0_1.length c0_1] 26 (0, 0)) (pY40) hb); have n6_ := Aside0.mk (below_step (pY37) hb); clear HO_6; clear HO_8; clear HO137; clear HO140; clear BK101; clear HB; have HO_6 := n0_; have HO_8 := n1_; have HO137 := n2_; have HO140 := n3_; have HO143 := n4_; have BK101 := n5_; have HB := n6_; clear n0_ n1_ n2_ n3_ n4_ n5_ n6_; (try clear hb); (try clear hb2); (try clear hk); (try clear hi); (try clear ho0); obtain ⟨Ao68, co68, eo68⟩ := Kd.R_slice HO143.out; subst eo68) | ((with_reducible refine gate_callee (f := 34) rfl ?_); refine goesL_ (some 67) rfl rfl Try.func34 (by kernel_rfl) rfl #[.slice Ao68 t141.length co68, .slice Ao38 t109.length co38] rfl (pY38) ?_; (with_reducible refine (laws_eqStringS.calls kj19 _ _ t141 _ _ t109 true _ ?side1 ?side2 ?side3 ?side4 A57.out).mono ?_); (case side1 => exact pC (Kd.R_reads' HO143.out).2.2); (case side2 => exact (Kd.R_reads' HO143.out).2.1); (case side3 => exact pC (Kd.R_reads' HO_6.out).2.2); (case side4 => exact (Kd.R_reads' HO_6.out).2.1); rintro e w' ⟨rfl, ⟨nd, rfl⟩⟩; refine ⟨_, rfl, ?_⟩) | ((with_reducible refine gate_callee (f := 41) rfl ?_); refine goesL_ (some 71) rfl rfl Try.func41 (by kernel_rfl) rfl #[.slice Ao37 t133.length co37, .int .i64 1] rfl (pY25) ?_; (with_reducible refine (laws_heldStringS.calls kj19 _ _ t133 1 t145 _ ?side1 ?side2 A59.out).mono ?_); (case side1 => exact pC (Kd.R_reads' HO_8.out).2.2); (case side2 => rw [show t133.length = t119.length from (Kd.R_reads' HO_8.out).1.symm]; exact (Kd.R_reads' HO_8.out).2.1); rintro e w69 ⟨rfl, hb⟩; refine ⟨_, rfl, ?_⟩; have n0_ := Aside0.mk (Kd.R_below (pY54) hb); have n1_ := Aside0.mk (Kd.R_below (pY55) hb); have n2_ := Aside0.mk (Kd.R_below (pY50) hb); have n3_ := Aside0.mk (Kd.S_below (pY51) hb); have n4_ := Aside0.mk (Kd.R_below (by (with_reducible repeat (first | apply Kd.R_alloc | apply Kd.R_drewN | apply Kd.R_drew)); exact HO143.out) hb); have n5_ := Aside0.mk (blk_below (g := gb101) (o := .cells #[.slice A0_0 l0_0.length c0_0, .slice A0_1 l0_1.length c0_1] 26 (0, 0)) (pY40) hb); have n6_ := Aside0.mk (below_step (pY37) hb); clear HO_6; clear HO_8; clear HO137; clear HO140; clear HO143; clear BK101; clear HB; have HO_6 := n0_; have HO_8 := n1_; have HO137 := n2_; have HO140 := n3_; have HO143 := n4_; have BK101 := n5_; have HB := n6_; clear n0_ n1_ n2_ n3_ n4_ n5_ n6_; (try clear hb); (try clear hb2); (try clear hk); (try clear hi)))
            go_ret
            exact ⟨by first | rfl | (simp [errW_none, errW_some] <;> rfl) | (simp [*, errW_none, errW_some] <;> rfl), pY37⟩
           ·rw [if_neg c60] at H
            have c60b0 : decide (t145 < 0) = false := decide_eq_false c60
            clear c60
            by_cases c70 : t145 = t132
            ·rw [if_pos c70] at H
             have c70b0 : (t145 == t132) = true := beq_iff_eq.mpr c70
             have c70b1 : (t145 != t132) = false := bne_eq_false_iff_eq.mpr c70
             clear c70
             obtain rfl := Option.some.inj H
             go_wp2_with (first | ((with_reducible refine gate_callee (f := 40) rfl ?_); refine goesL_ (some 52) rfl rfl Try.func40 (by kernel_rfl) rfl #[.slice Ao37 t119.length co37, .int .i64 1] rfl (pY38) ?_; (with_reducible refine (laws_markStringS.calls kj19 (fun k_ => some k_ = (.slice Ao37 t119.length co37 : Value).ownBlock) (.slice Ao37 t119.length co37) t119 1 t132 t133 w _ ?side1 ?side2 A49.out).mono ?_); (case side1 => repeat (first | (with_reducible first | exact HB.out | apply below_alloc | apply pw_below_drewN | apply below_drew1 | refine below_set ?_ GE101.out) | exact HB.out)); (case side2 => exact Kd.R_tight rfl HO_8.out); rintro e w71 ⟨rfl, hy0, hb, hkp⟩; refine ⟨_, rfl, ?_⟩; have n0_ := Aside0.mk (Kd.R_mono (ok' := fun k_ => some k_ ≠ (.slice Ao37 t119.length co37 : Value).ownBlock) (Kd.R_keptB (HO_6.out) hkp (fun k_ hk_ hs_ => (hk_) hs_)) (fun k_ hk_ => hk_.1)); have n1_ := Aside0.mk (Kd.R_reok rfl hy0 (fun k_ e_ => HO_8.out.1 k_ e_)); have n2_ := Aside0.mk (blk_kept (pY40) hkp (fun hs_ => (fun e_ => (Kd.R_ne HO_8.out BK101.out (by decide)) e_) hs_)); have n3_ := Aside0.mk (hb); clear HO_6; clear HO_8; clear BK101; clear HB; have HO_6 := n0_; have HO_8 := n1_; have BK101 := n2_; have HB := n3_; clear n0_ n1_ n2_ n3_; (try clear hb); (try clear hkp); (try clear hy0)) | ((with_reducible refine gate_callee (f := 41) rfl ?_); refine goesL_ (some 55) rfl rfl Try.func41 (by kernel_rfl) rfl #[.slice Ao37 t133.length co37, .int .i64 1] rfl (pY25) ?_; (with_reducible refine (laws_heldStringS.calls kj19 _ _ t133 1 t134 _ ?side1 ?side2 A50.out).mono ?_); (case side1 => exact pC (Kd.R_reads' HO_8.out).2.2); (case side2 => rw [show t133.length = t119.length from (Kd.R_reads' HO_8.out).1.symm]; exact (Kd.R_reads' HO_8.out).2.1); rintro e w72 ⟨rfl, hb⟩; refine ⟨_, rfl, ?_⟩; have n0_ := Aside0.mk (Kd.R_below (pY54) hb); have n1_ := Aside0.mk (Kd.R_below (pY55) hb); have n2_ := Aside0.mk (blk_below (g := gb101) (o := .cells #[.slice A0_0 l0_0.length c0_0, .slice A0_1 l0_1.length c0_1] 26 (0, 0)) (pY40) hb); have n3_ := Aside0.mk (below_step (pY37) hb); clear HO_6; clear HO_8; clear BK101; clear HB; have HO_6 := n0_; have HO_8 := n1_; have BK101 := n2_; have HB := n3_; clear n0_ n1_ n2_ n3_; (try clear hb); (try clear hb2); (try clear hk); (try clear hi); have hcz73_0 : w72.cell? ⟨gb101, 0, none⟩ = some (.slice A0_0 l0_0.length c0_0) := (blk_cell BK101.out 0).trans rfl; have hcz73_1 : w72.cell? ⟨gb101, 1, none⟩ = some (.slice A0_1 l0_1.length c0_1) := (blk_cell BK101.out 1).trans rfl; have hfz73_0 := blk_frozen BK101.out 0; have hfz73_1 := blk_frozen BK101.out 1) | ((with_reducible refine gate_callee (f := 23) rfl ?_); refine goesL_ (some 62) rfl rfl Try.func23 (by kernel_rfl) rfl #[.agg #[.slice A0_0 l0_0.length c0_0, .slice A0_1 l0_1.length c0_1]] rfl (pY38) ?_; (with_reducible refine (laws_toShareBook.calls kj19 _ _ l0_0 _ _ l0_1 t135 t138 _ ?side1 ?side2 ?side3 ?side4 A55.out).mono ?_); (case side1 => exact pC (Kd.C_below HR0_0.out HB.out)); (case side2 => exact HC0_0.out); (case side3 => exact pC (Kd.C_below HR0_1.out HB.out)); (case side4 => exact HC0_1.out); rintro e w74 ⟨v136, v139, rfl, ho0, ho1, hb⟩; refine ⟨_, rfl, ?_⟩; have n0_ := Aside0.mk (Kd.R_elder' (pY54) (Kd.R_base ho0) hb); have n1_ := Aside0.mk (Kd.R_elder' (pY55) (Kd.R_base ho0) hb); have n2_ := Aside0.mk (Kd.R_lower (Kd.R_new' (Kd.R_new' ho0 (Kd.R_lt (pY54))) (Kd.R_lt (pY55))) (below_size (pY37))); have n3_ := Aside0.mk (Kd.S_lower (Kd.S_new' (Kd.S_new' ho1 (Kd.R_lt (pY54))) (Kd.R_lt (pY55))) (below_size (pY37))); have n4_ := Aside0.mk (blk_below (g := gb101) (o := .cells #[.slice A0_0 l0_0.length c0_0, .slice A0_1 l0_1.length c0_1] 26 (0, 0)) (pY40) hb); have n5_ := Aside0.mk (below_step (pY37) hb); clear HO_6; clear HO_8; clear BK101; clear HB; have HO_6 := n0_; have HO_8 := n1_; have HO137 := n2_; have HO140 := n3_; have BK101 := n4_; have HB := n5_; clear n0_ n1_ n2_ n3_ n4_ n5_; (try clear hb); (try clear hb2); (try clear hk); (try clear hi); (try clear ho0); (try clear ho1); obtain ⟨Ao75, co75, eo75⟩ := Kd.R_slice HO137.out; subst eo75; obtain ⟨Ao76, co76, eo76⟩ := Kd.S_slice HO140.out; subst eo76) | ((with_reducible refine gate_callee (f := 38) rfl ?_); refine goesL_ (some 64) rfl rfl Try.func38 (by kernel_rfl) rfl #[.agg #[.slice Ao75 t135.length co75, .slice Ao76 t138.length co76], .string a1] rfl (pY38) ?_; (with_reducible refine (impl_ShareWaits.calls kj19 _ _ t135 _ _ t138 a1 t141 _ ?side1 ?side2 ?side3 ?side4 A56.out).mono ?_); (case side1 => exact pC (Kd.R_reads' HO137.out).2.2); (case side2 => exact (Kd.R_reads' HO137.out).2.1); (case side3 => exact pC (Kd.S_reads' HO140.out).2.2); (case side4 => exact (Kd.S_reads' HO140.out).2.1); rintro e w77 ⟨v142, rfl, ho0, hb⟩; refine ⟨_, rfl, ?_⟩; have n0_ := Aside0.mk (Kd.R_elder' (pY54) (Kd.R_base ho0) hb); have n1_ := Aside0.mk (Kd.R_elder' (pY55) (Kd.R_base ho0) hb); have n2_ := Aside0.mk (Kd.R_elder' (pY50) (Kd.R_base ho0) hb); have n3_ := Aside0.mk (Kd.S_elder' (pY51) (Kd.R_base ho0) hb); have n4_ := Aside0.mk (Kd.R_lower (Kd.R_new' (Kd.R_new' (Kd.R_new' ho0 (Kd.R_lt (pY54))) (Kd.R_lt (pY55))) (Kd.R_lt (pY50))) (below_size (pY37))); have n5_ := Aside0.mk (blk_below (g := gb101) (o := .cells #[.slice A0_0 l0_0.length c0_0, .slice A0_1 l0_1.length c0_1] 26 (0, 0)) (pY40) hb); have n6_ := Aside0.mk (below_step (pY37) hb); clear HO_6; clear HO_8; clear HO137; clear HO140; clear BK101; clear HB; have HO_6 := n0_; have HO_8 := n1_; have HO137 := n2_; have HO140 := n3_; have HO143 := n4_; have BK101 := n5_; have HB := n6_; clear n0_ n1_ n2_ n3_ n4_ n5_ n6_; (try clear hb); (try clear hb2); (try clear hk); (try clear hi); (try clear ho0); obtain ⟨Ao78, co78, eo78⟩ := Kd.R_slice HO143.out; subst eo78) | ((with_reducible refine gate_callee (f := 34) rfl ?_); refine goesL_ (some 67) rfl rfl Try.func34 (by kernel_rfl) rfl #[.slice Ao78 t141.length co78, .slice Ao38 t109.length co38] rfl (pY38) ?_; (with_reducible refine (laws_eqStringS.calls kj19 _ _ t141 _ _ t109 true _ ?side1 ?side2 ?side3 ?side4 A57.out).mono ?_); (case side1 => exact pC (Kd.R_reads' HO143.out).2.2); (case side2 => exact (Kd.R_reads' HO143.out).2.1); (case side3 => exact pC (Kd.R_reads' HO_6.out).2.2); (case side4 => exact (Kd.R_reads' HO_6.out).2.1); rintro e w' ⟨rfl, ⟨nd, rfl⟩⟩; refine ⟨_, rfl, ?_⟩) | ((with_reducible refine gate_callee (f := 41) rfl ?_); refine goesL_ (some 71) rfl rfl Try.func41 (by kernel_rfl) rfl #[.slice Ao37 t133.length co37, .int .i64 1] rfl (pY25) ?_; (with_reducible refine (laws_heldStringS.calls kj19 _ _ t133 1 t145 _ ?side1 ?side2 A59.out).mono ?_); (case side1 => exact pC (Kd.R_reads' HO_8.out).2.2); (case side2 => rw [show t133.length = t119.length from (Kd.R_reads' HO_8.out).1.symm]; exact (Kd.R_reads' HO_8.out).2.1); rintro e w79 ⟨rfl, hb⟩; refine ⟨_, rfl, ?_⟩; have n0_ := Aside0.mk (Kd.R_below (pY54) hb); have n1_ := Aside0.mk (Kd.R_below (pY55) hb); have n2_ := Aside0.mk (Kd.R_below (pY50) hb); have n3_ := Aside0.mk (Kd.S_below (pY51) hb); have n4_ := Aside0.mk (Kd.R_below (by (with_reducible repeat (first | apply Kd.R_alloc | apply Kd.R_drewN | apply Kd.R_drew)); exact HO143.out) hb); have n5_ := Aside0.mk (blk_below (g := gb101) (o := .cells #[.slice A0_0 l0_0.length c0_0, .slice A0_1 l0_1.length c0_1] 26 (0, 0)) (pY40) hb); have n6_ := Aside0.mk (below_step (pY37) hb); clear HO_6; clear HO_8; clear HO137; clear HO140; clear HO143; clear BK101; clear HB; have HO_6 := n0_; have HO_8 := n1_; have HO137 := n2_; have HO140 := n3_; have HO143 := n4_; have BK101 := n5_; have HB := n6_; clear n0_ n1_ n2_ n3_ n4_ n5_ n6_; (try clear hb); (try clear hb2); (try clear hk); (try clear hi)))
             go_ret
             exact ⟨by first | rfl | (simp [errW_none, errW_some] <;> rfl) | (simp [*, errW_none, errW_some] <;> rfl), pY37⟩
            ·rw [if_neg c70] at H
             have c70b0 : (t145 == t132) = false := beq_eq_false_iff_ne.mpr c70
             have c70b1 : (t145 != t132) = true := bne_iff_ne.mpr c70
             obtain rfl := Option.some.inj H
             go_wp2_with (first | ((with_reducible refine gate_callee (f := 40) rfl ?_); refine goesL_ (some 52) rfl rfl Try.func40 (by kernel_rfl) rfl #[.slice Ao37 t119.length co37, .int .i64 1] rfl (pY38) ?_; (with_reducible refine (laws_markStringS.calls kj19 (fun k_ => some k_ = (.slice Ao37 t119.length co37 : Value).ownBlock) (.slice Ao37 t119.length co37) t119 1 t132 t133 w _ ?side1 ?side2 A49.out).mono ?_); (case side1 => repeat (first | (with_reducible first | exact HB.out | apply below_alloc | apply pw_below_drewN | apply below_drew1 | refine below_set ?_ GE101.out) | exact HB.out)); (case side2 => exact Kd.R_tight rfl HO_8.out); rintro e w80 ⟨rfl, hy0, hb, hkp⟩; refine ⟨_, rfl, ?_⟩; have n0_ := Aside0.mk (Kd.R_mono (ok' := fun k_ => some k_ ≠ (.slice Ao37 t119.length co37 : Value).ownBlock) (Kd.R_keptB (HO_6.out) hkp (fun k_ hk_ hs_ => (hk_) hs_)) (fun k_ hk_ => hk_.1)); have n1_ := Aside0.mk (Kd.R_reok rfl hy0 (fun k_ e_ => HO_8.out.1 k_ e_)); have n2_ := Aside0.mk (blk_kept (pY40) hkp (fun hs_ => (fun e_ => (Kd.R_ne HO_8.out BK101.out (by decide)) e_) hs_)); have n3_ := Aside0.mk (hb); clear HO_6; clear HO_8; clear BK101; clear HB; have HO_6 := n0_; have HO_8 := n1_; have BK101 := n2_; have HB := n3_; clear n0_ n1_ n2_ n3_; (try clear hb); (try clear hkp); (try clear hy0)) | ((with_reducible refine gate_callee (f := 41) rfl ?_); refine goesL_ (some 55) rfl rfl Try.func41 (by kernel_rfl) rfl #[.slice Ao37 t133.length co37, .int .i64 1] rfl (pY25) ?_; (with_reducible refine (laws_heldStringS.calls kj19 _ _ t133 1 t134 _ ?side1 ?side2 A50.out).mono ?_); (case side1 => exact pC (Kd.R_reads' HO_8.out).2.2); (case side2 => rw [show t133.length = t119.length from (Kd.R_reads' HO_8.out).1.symm]; exact (Kd.R_reads' HO_8.out).2.1); rintro e w81 ⟨rfl, hb⟩; refine ⟨_, rfl, ?_⟩; have n0_ := Aside0.mk (Kd.R_below (pY54) hb); have n1_ := Aside0.mk (Kd.R_below (pY55) hb); have n2_ := Aside0.mk (blk_below (g := gb101) (o := .cells #[.slice A0_0 l0_0.length c0_0, .slice A0_1 l0_1.length c0_1] 26 (0, 0)) (pY40) hb); have n3_ := Aside0.mk (below_step (pY37) hb); clear HO_6; clear HO_8; clear BK101; clear HB; have HO_6 := n0_; have HO_8 := n1_; have BK101 := n2_; have HB := n3_; clear n0_ n1_ n2_ n3_; (try clear hb); (try clear hb2); (try clear hk); (try clear hi); have hcz82_0 : w81.cell? ⟨gb101, 0, none⟩ = some (.slice A0_0 l0_0.length c0_0) := (blk_cell BK101.out 0).trans rfl; have hcz82_1 : w81.cell? ⟨gb101, 1, none⟩ = some (.slice A0_1 l0_1.length c0_1) := (blk_cell BK101.out 1).trans rfl; have hfz82_0 := blk_frozen BK101.out 0; have hfz82_1 := blk_frozen BK101.out 1) | ((with_reducible refine gate_callee (f := 23) rfl ?_); refine goesL_ (some 62) rfl rfl Try.func23 (by kernel_rfl) rfl #[.agg #[.slice A0_0 l0_0.length c0_0, .slice A0_1 l0_1.length c0_1]] rfl (pY38) ?_; (with_reducible refine (laws_toShareBook.calls kj19 _ _ l0_0 _ _ l0_1 t135 t138 _ ?side1 ?side2 ?side3 ?side4 A55.out).mono ?_); (case side1 => exact pC (Kd.C_below HR0_0.out HB.out)); (case side2 => exact HC0_0.out); (case side3 => exact pC (Kd.C_below HR0_1.out HB.out)); (case side4 => exact HC0_1.out); rintro e w83 ⟨v136, v139, rfl, ho0, ho1, hb⟩; refine ⟨_, rfl, ?_⟩; have n0_ := Aside0.mk (Kd.R_elder' (pY54) (Kd.R_base ho0) hb); have n1_ := Aside0.mk (Kd.R_elder' (pY55) (Kd.R_base ho0) hb); have n2_ := Aside0.mk (Kd.R_lower (Kd.R_new' (Kd.R_new' ho0 (Kd.R_lt (pY54))) (Kd.R_lt (pY55))) (below_size (pY37))); have n3_ := Aside0.mk (Kd.S_lower (Kd.S_new' (Kd.S_new' ho1 (Kd.R_lt (pY54))) (Kd.R_lt (pY55))) (below_size (pY37))); have n4_ := Aside0.mk (blk_below (g := gb101) (o := .cells #[.slice A0_0 l0_0.length c0_0, .slice A0_1 l0_1.length c0_1] 26 (0, 0)) (pY40) hb); have n5_ := Aside0.mk (below_step (pY37) hb); clear HO_6; clear HO_8; clear BK101; clear HB; have HO_6 := n0_; have HO_8 := n1_; have HO137 := n2_; have HO140 := n3_; have BK101 := n4_; have HB := n5_; clear n0_ n1_ n2_ n3_ n4_ n5_; (try clear hb); (try clear hb2); (try clear hk); (try clear hi); (try clear ho0); (try clear ho1); obtain ⟨Ao84, co84, eo84⟩ := Kd.R_slice HO137.out; subst eo84; obtain ⟨Ao85, co85, eo85⟩ := Kd.S_slice HO140.out; subst eo85) | ((with_reducible refine gate_callee (f := 38) rfl ?_); refine goesL_ (some 64) rfl rfl Try.func38 (by kernel_rfl) rfl #[.agg #[.slice Ao84 t135.length co84, .slice Ao85 t138.length co85], .string a1] rfl (pY38) ?_; (with_reducible refine (impl_ShareWaits.calls kj19 _ _ t135 _ _ t138 a1 t141 _ ?side1 ?side2 ?side3 ?side4 A56.out).mono ?_); (case side1 => exact pC (Kd.R_reads' HO137.out).2.2); (case side2 => exact (Kd.R_reads' HO137.out).2.1); (case side3 => exact pC (Kd.S_reads' HO140.out).2.2); (case side4 => exact (Kd.S_reads' HO140.out).2.1); rintro e w86 ⟨v142, rfl, ho0, hb⟩; refine ⟨_, rfl, ?_⟩; have n0_ := Aside0.mk (Kd.R_elder' (pY54) (Kd.R_base ho0) hb); have n1_ := Aside0.mk (Kd.R_elder' (pY55) (Kd.R_base ho0) hb); have n2_ := Aside0.mk (Kd.R_elder' (pY50) (Kd.R_base ho0) hb); have n3_ := Aside0.mk (Kd.S_elder' (pY51) (Kd.R_base ho0) hb); have n4_ := Aside0.mk (Kd.R_lower (Kd.R_new' (Kd.R_new' (Kd.R_new' ho0 (Kd.R_lt (pY54))) (Kd.R_lt (pY55))) (Kd.R_lt (pY50))) (below_size (pY37))); have n5_ := Aside0.mk (blk_below (g := gb101) (o := .cells #[.slice A0_0 l0_0.length c0_0, .slice A0_1 l0_1.length c0_1] 26 (0, 0)) (pY40) hb); have n6_ := Aside0.mk (below_step (pY37) hb); clear HO_6; clear HO_8; clear HO137; clear HO140; clear BK101; clear HB; have HO_6 := n0_; have HO_8 := n1_; have HO137 := n2_; have HO140 := n3_; have HO143 := n4_; have BK101 := n5_; have HB := n6_; clear n0_ n1_ n2_ n3_ n4_ n5_ n6_; (try clear hb); (try clear hb2); (try clear hk); (try clear hi); (try clear ho0); obtain ⟨Ao87, co87, eo87⟩ := Kd.R_slice HO143.out; subst eo87) | ((with_reducible refine gate_callee (f := 34) rfl ?_); refine goesL_ (some 67) rfl rfl Try.func34 (by kernel_rfl) rfl #[.slice Ao87 t141.length co87, .slice Ao38 t109.length co38] rfl (pY38) ?_; (with_reducible refine (laws_eqStringS.calls kj19 _ _ t141 _ _ t109 true _ ?side1 ?side2 ?side3 ?side4 A57.out).mono ?_); (case side1 => exact pC (Kd.R_reads' HO143.out).2.2); (case side2 => exact (Kd.R_reads' HO143.out).2.1); (case side3 => exact pC (Kd.R_reads' HO_6.out).2.2); (case side4 => exact (Kd.R_reads' HO_6.out).2.1); rintro e w' ⟨rfl, ⟨nd, rfl⟩⟩; refine ⟨_, rfl, ?_⟩) | ((with_reducible refine gate_callee (f := 41) rfl ?_); refine goesL_ (some 71) rfl rfl Try.func41 (by kernel_rfl) rfl #[.slice Ao37 t133.length co37, .int .i64 1] rfl (pY25) ?_; (with_reducible refine (laws_heldStringS.calls kj19 _ _ t133 1 t145 _ ?side1 ?side2 A59.out).mono ?_); (case side1 => exact pC (Kd.R_reads' HO_8.out).2.2); (case side2 => rw [show t133.length = t119.length from (Kd.R_reads' HO_8.out).1.symm]; exact (Kd.R_reads' HO_8.out).2.1); rintro e w88 ⟨rfl, hb⟩; refine ⟨_, rfl, ?_⟩; have n0_ := Aside0.mk (Kd.R_below (pY54) hb); have n1_ := Aside0.mk (Kd.R_below (pY55) hb); have n2_ := Aside0.mk (Kd.R_below (pY50) hb); have n3_ := Aside0.mk (Kd.S_below (pY51) hb); have n4_ := Aside0.mk (Kd.R_below (by (with_reducible repeat (first | apply Kd.R_alloc | apply Kd.R_drewN | apply Kd.R_drew)); exact HO143.out) hb); have n5_ := Aside0.mk (blk_below (g := gb101) (o := .cells #[.slice A0_0 l0_0.length c0_0, .slice A0_1 l0_1.length c0_1] 26 (0, 0)) (pY40) hb); have n6_ := Aside0.mk (below_step (pY37) hb); clear HO_6; clear HO_8; clear HO137; clear HO140; clear HO143; clear BK101; clear HB; have HO_6 := n0_; have HO_8 := n1_; have HO137 := n2_; have HO140 := n3_; have HO143 := n4_; have BK101 := n5_; have HB := n6_; clear n0_ n1_ n2_ n3_ n4_ n5_ n6_; (try clear hb); (try clear hb2); (try clear hk); (try clear hi)))
             go_ret
             exact ⟨by first | rfl | (simp [errW_none, errW_some] <;> rfl) | (simp [*, errW_none, errW_some] <;> rfl), pY37⟩
          ·replace c58 := Bool.eq_false_iff.mpr c58
           subst c58
           have H1 : (some false) = some r := by rw [if_neg (show ¬ (false = true) by decide)] at H; exact H
           clear H
           have H := H1
           clear H1
           obtain rfl := Option.some.inj H
           go_wp2_with (first | ((with_reducible refine gate_callee (f := 40) rfl ?_); refine goesL_ (some 52) rfl rfl Try.func40 (by kernel_rfl) rfl #[.slice Ao37 t119.length co37, .int .i64 1] rfl (pY38) ?_; (with_reducible refine (laws_markStringS.calls kj19 (fun k_ => some k_ = (.slice Ao37 t119.length co37 : Value).ownBlock) (.slice Ao37 t119.length co37) t119 1 t132 t133 w _ ?side1 ?side2 A49.out).mono ?_); (case side1 => repeat (first | (with_reducible first | exact HB.out | apply below_alloc | apply pw_below_drewN | apply below_drew1 | refine below_set ?_ GE101.out) | exact HB.out)); (case side2 => exact Kd.R_tight rfl HO_8.out); rintro e w89 ⟨rfl, hy0, hb, hkp⟩; refine ⟨_, rfl, ?_⟩; have n0_ := Aside0.mk (Kd.R_mono (ok' := fun k_ => some k_ ≠ (.slice Ao37 t119.length co37 : Value).ownBlock) (Kd.R_keptB (HO_6.out) hkp (fun k_ hk_ hs_ => (hk_) hs_)) (fun k_ hk_ => hk_.1)); have n1_ := Aside0.mk (Kd.R_reok rfl hy0 (fun k_ e_ => HO_8.out.1 k_ e_)); have n2_ := Aside0.mk (blk_kept (pY40) hkp (fun hs_ => (fun e_ => (Kd.R_ne HO_8.out BK101.out (by decide)) e_) hs_)); have n3_ := Aside0.mk (hb); clear HO_6; clear HO_8; clear BK101; clear HB; have HO_6 := n0_; have HO_8 := n1_; have BK101 := n2_; have HB := n3_; clear n0_ n1_ n2_ n3_; (try clear hb); (try clear hkp); (try clear hy0)) | ((with_reducible refine gate_callee (f := 41) rfl ?_); refine goesL_ (some 55) rfl rfl Try.func41 (by kernel_rfl) rfl #[.slice Ao37 t133.length co37, .int .i64 1] rfl (pY25) ?_; (with_reducible refine (laws_heldStringS.calls kj19 _ _ t133 1 t134 _ ?side1 ?side2 A50.out).mono ?_); (case side1 => exact pC (Kd.R_reads' HO_8.out).2.2); (case side2 => rw [show t133.length = t119.length from (Kd.R_reads' HO_8.out).1.symm]; exact (Kd.R_reads' HO_8.out).2.1); rintro e w90 ⟨rfl, hb⟩; refine ⟨_, rfl, ?_⟩; have n0_ := Aside0.mk (Kd.R_below (pY54) hb); have n1_ := Aside0.mk (Kd.R_below (pY55) hb); have n2_ := Aside0.mk (blk_below (g := gb101) (o := .cells #[.slice A0_0 l0_0.length c0_0, .slice A0_1 l0_1.length c0_1] 26 (0, 0)) (pY40) hb); have n3_ := Aside0.mk (below_step (pY37) hb); clear HO_6; clear HO_8; clear BK101; clear HB; have HO_6 := n0_; have HO_8 := n1_; have BK101 := n2_; have HB := n3_; clear n0_ n1_ n2_ n3_; (try clear hb); (try clear hb2); (try clear hk); (try clear hi); have hcz91_0 : w90.cell? ⟨gb101, 0, none⟩ = some (.slice A0_0 l0_0.length c0_0) := (blk_cell BK101.out 0).trans rfl; have hcz91_1 : w90.cell? ⟨gb101, 1, none⟩ = some (.slice A0_1 l0_1.length c0_1) := (blk_cell BK101.out 1).trans rfl; have hfz91_0 := blk_frozen BK101.out 0; have hfz91_1 := blk_frozen BK101.out 1) | ((with_reducible refine gate_callee (f := 23) rfl ?_); refine goesL_ (some 62) rfl rfl Try.func23 (by kernel_rfl) rfl #[.agg #[.slice A0_0 l0_0.length c0_0, .slice A0_1 l0_1.length c0_1]] rfl (pY38) ?_; (with_reducible refine (laws_toShareBook.calls kj19 _ _ l0_0 _ _ l0_1 t135 t138 _ ?side1 ?side2 ?side3 ?side4 A55.out).mono ?_); (case side1 => exact pC (Kd.C_below HR0_0.out HB.out)); (case side2 => exact HC0_0.out); (case side3 => exact pC (Kd.C_below HR0_1.out HB.out)); (case side4 => exact HC0_1.out); rintro e w92 ⟨v136, v139, rfl, ho0, ho1, hb⟩; refine ⟨_, rfl, ?_⟩; have n0_ := Aside0.mk (Kd.R_elder' (pY54) (Kd.R_base ho0) hb); have n1_ := Aside0.mk (Kd.R_elder' (pY55) (Kd.R_base ho0) hb); have n2_ := Aside0.mk (Kd.R_lower (Kd.R_new' (Kd.R_new' ho0 (Kd.R_lt (pY54))) (Kd.R_lt (pY55))) (below_size (pY37))); have n3_ := Aside0.mk (Kd.S_lower (Kd.S_new' (Kd.S_new' ho1 (Kd.R_lt (pY54))) (Kd.R_lt (pY55))) (below_size (pY37))); have n4_ := Aside0.mk (blk_below (g := gb101) (o := .cells #[.slice A0_0 l0_0.length c0_0, .slice A0_1 l0_1.length c0_1] 26 (0, 0)) (pY40) hb); have n5_ := Aside0.mk (below_step (pY37) hb); clear HO_6; clear HO_8; clear BK101; clear HB; have HO_6 := n0_; have HO_8 := n1_; have HO137 := n2_; have HO140 := n3_; have BK101 := n4_; have HB := n5_; clear n0_ n1_ n2_ n3_ n4_ n5_; (try clear hb); (try clear hb2); (try clear hk); (try clear hi); (try clear ho0); (try clear ho1); obtain ⟨Ao93, co93, eo93⟩ := Kd.R_slice HO137.out; subst eo93; obtain ⟨Ao94, co94, eo94⟩ := Kd.S_slice HO140.out; subst eo94) | ((with_reducible refine gate_callee (f := 38) rfl ?_); refine goesL_ (some 64) rfl rfl Try.func38 (by kernel_rfl) rfl #[.agg #[.slice Ao93 t135.length co93, .slice Ao94 t138.length co94], .string a1] rfl (pY38) ?_; (with_reducible refine (impl_ShareWaits.calls kj19 _ _ t135 _ _ t138 a1 t141 _ ?side1 ?side2 ?side3 ?side4 A56.out).mono ?_); (case side1 => exact pC (Kd.R_reads' HO137.out).2.2); (case side2 => exact (Kd.R_reads' HO137.out).2.1); (case side3 => exact pC (Kd.S_reads' HO140.out).2.2); (case side4 => exact (Kd.S_reads' HO140.out).2.1); rintro e w95 ⟨v142, rfl, ho0, hb⟩; refine ⟨_, rfl, ?_⟩; have n0_ := Aside0.mk (Kd.R_elder' (pY54) (Kd.R_base ho0) hb); have n1_ := Aside0.mk (Kd.R_elder' (pY55) (Kd.R_base ho0) hb); have n2_ := Aside0.mk (Kd.R_elder' (pY50) (Kd.R_base ho0) hb); have n3_ := Aside0.mk (Kd.S_elder' (pY51) (Kd.R_base ho0) hb); have n4_ := Aside0.mk (Kd.R_lower (Kd.R_new' (Kd.R_new' (Kd.R_new' ho0 (Kd.R_lt (pY54))) (Kd.R_lt (pY55))) (Kd.R_lt (pY50))) (below_size (pY37))); have n5_ := Aside0.mk (blk_below (g := gb101) (o := .cells #[.slice A0_0 l0_0.length c0_0, .slice A0_1 l0_1.length c0_1] 26 (0, 0)) (pY40) hb); have n6_ := Aside0.mk (below_step (pY37) hb); clear HO_6; clear HO_8; clear HO137; clear HO140; clear BK101; clear HB; have HO_6 := n0_; have HO_8 := n1_; have HO137 := n2_; have HO140 := n3_; have HO143 := n4_; have BK101 := n5_; have HB := n6_; clear n0_ n1_ n2_ n3_ n4_ n5_ n6_; (try clear hb); (try clear hb2); (try clear hk); (try clear hi); (try clear ho0); obtain ⟨Ao96, co96, eo96⟩ := Kd.R_slice HO143.out; subst eo96) | ((with_reducible refine gate_callee (f := 34) rfl ?_); refine goesL_ (some 67) rfl rfl Try.func34 (by kernel_rfl) rfl #[.slice Ao96 t141.length co96, .slice Ao38 t109.length co38] rfl (pY38) ?_; (with_reducible refine (laws_eqStringS.calls kj19 _ _ t141 _ _ t109 false _ ?side1 ?side2 ?side3 ?side4 A57.out).mono ?_); (case side1 => exact pC (Kd.R_reads' HO143.out).2.2); (case side2 => exact (Kd.R_reads' HO143.out).2.1); (case side3 => exact pC (Kd.R_reads' HO_6.out).2.2); (case side4 => exact (Kd.R_reads' HO_6.out).2.1); rintro e w' ⟨rfl, ⟨nd, rfl⟩⟩; refine ⟨_, rfl, ?_⟩))
           go_ret
           exact ⟨by first | rfl | (simp [errW_none, errW_some] <;> rfl) | (simp [*, errW_none, errW_some] <;> rfl), pY37⟩
         ·rw [if_neg c54] at H
          have c54b0 : (t134 == t132) = false := beq_eq_false_iff_ne.mpr c54
          have c54b1 : (t134 != t132) = true := bne_iff_ne.mpr c54
          obtain rfl := Option.some.inj H
          go_wp2_with (first | ((with_reducible refine gate_callee (f := 40) rfl ?_); refine goesL_ (some 52) rfl rfl Try.func40 (by kernel_rfl) rfl #[.slice Ao37 t119.length co37, .int .i64 1] rfl (pY38) ?_; (with_reducible refine (laws_markStringS.calls kj19 (fun k_ => some k_ = (.slice Ao37 t119.length co37 : Value).ownBlock) (.slice Ao37 t119.length co37) t119 1 t132 t133 w _ ?side1 ?side2 A49.out).mono ?_); (case side1 => repeat (first | (with_reducible first | exact HB.out | apply below_alloc | apply pw_below_drewN | apply below_drew1 | refine below_set ?_ GE101.out) | exact HB.out)); (case side2 => exact Kd.R_tight rfl HO_8.out); rintro e w97 ⟨rfl, hy0, hb, hkp⟩; refine ⟨_, rfl, ?_⟩; have n0_ := Aside0.mk (Kd.R_mono (ok' := fun k_ => some k_ ≠ (.slice Ao37 t119.length co37 : Value).ownBlock) (Kd.R_keptB (HO_6.out) hkp (fun k_ hk_ hs_ => (hk_) hs_)) (fun k_ hk_ => hk_.1)); have n1_ := Aside0.mk (Kd.R_reok rfl hy0 (fun k_ e_ => HO_8.out.1 k_ e_)); have n2_ := Aside0.mk (blk_kept (pY40) hkp (fun hs_ => (fun e_ => (Kd.R_ne HO_8.out BK101.out (by decide)) e_) hs_)); have n3_ := Aside0.mk (hb); clear HO_6; clear HO_8; clear BK101; clear HB; have HO_6 := n0_; have HO_8 := n1_; have BK101 := n2_; have HB := n3_; clear n0_ n1_ n2_ n3_; (try clear hb); (try clear hkp); (try clear hy0)) | ((with_reducible refine gate_callee (f := 41) rfl ?_); refine goesL_ (some 55) rfl rfl Try.func41 (by kernel_rfl) rfl #[.slice Ao37 t133.length co37, .int .i64 1] rfl (pY25) ?_; (with_reducible refine (laws_heldStringS.calls kj19 _ _ t133 1 t134 _ ?side1 ?side2 A50.out).mono ?_); (case side1 => exact pC (Kd.R_reads' HO_8.out).2.2); (case side2 => rw [show t133.length = t119.length from (Kd.R_reads' HO_8.out).1.symm]; exact (Kd.R_reads' HO_8.out).2.1); rintro e w98 ⟨rfl, hb⟩; refine ⟨_, rfl, ?_⟩; have n0_ := Aside0.mk (Kd.R_below (pY54) hb); have n1_ := Aside0.mk (Kd.R_below (pY55) hb); have n2_ := Aside0.mk (blk_below (g := gb101) (o := .cells #[.slice A0_0 l0_0.length c0_0, .slice A0_1 l0_1.length c0_1] 26 (0, 0)) (pY40) hb); have n3_ := Aside0.mk (below_step (pY37) hb); clear HO_6; clear HO_8; clear BK101; clear HB; have HO_6 := n0_; have HO_8 := n1_; have BK101 := n2_; have HB := n3_; clear n0_ n1_ n2_ n3_; (try clear hb); (try clear hb2); (try clear hk); (try clear hi)))
          go_ret
          exact ⟨by first | rfl | (simp [errW_none, errW_some] <;> rfl) | (simp [*, errW_none, errW_some] <;> rfl), pY37⟩
    ·replace c18 := Bool.eq_false_iff.mpr c18
     subst c18
     have H1 : (some false) = some r := by rw [if_neg (show ¬ (false = true) by decide)] at H; exact H
     clear H
     have H := H1
     clear H1
     obtain rfl := Option.some.inj H
     go_enter Try.func9, Try.ntmps9
     try go_wp2_with (first | ((with_reducible refine gate_dst (N := 2) rfl ?_); refine box_event ?hg (N := 2) ?hd (cs := #[.slice A0_0 l0_0.length c0_0, .slice A0_1 l0_1.length c0_1]) (t := 26) ?hr ?_; (case hd => rfl); (case hg => rfl); (case hr => first | (go_simp; done) | (go_simp; rfl)); intro gb101 hg w99 hbox hb; have n0_ := Aside0.mk (below_step (pY39) hb); have n1_ := Aside0.mk (hbox); have n2_ := Aside0.mk ((pY36 : w.heap.size ≤ gb101)); have n3_ := Aside0.mk ((pY36 : w.heap.size ≤ gb101)); clear HB; have HB := n0_; have BK101 := n1_; have GW101 := n2_; have GE101 := n3_; clear n0_ n1_ n2_ n3_; clear hb hbox hg; have hcz100_0 : w99.cell? ⟨gb101, 0, none⟩ = some (.slice A0_0 l0_0.length c0_0) := (blk_cell BK101.out 0).trans rfl; have hcz100_1 : w99.cell? ⟨gb101, 1, none⟩ = some (.slice A0_1 l0_1.length c0_1) := (blk_cell BK101.out 1).trans rfl; have hfz100_0 := blk_frozen BK101.out 0; have hfz100_1 := blk_frozen BK101.out 1) | ((with_reducible refine gate_callee (f := 21) rfl ?_); refine goesL_ (some 18) rfl rfl Try.func21 (by kernel_rfl) rfl #[.agg #[.slice A0_0 l0_0.length c0_0, .slice A0_1 l0_1.length c0_1], .int .i64 1048576] rfl (pY38) ?_; (with_reducible refine (laws_szShareBook.calls k _ _ l0_0 _ _ l0_1 1048576 t102 _ ?side1 ?side2 ?side3 ?side4 A5.out).mono ?_); (case side1 => exact pC (Kd.C_below HR0_0.out HB.out)); (case side2 => exact HC0_0.out); (case side3 => exact pC (Kd.C_below HR0_1.out HB.out)); (case side4 => exact HC0_1.out); rintro e w101 ⟨rfl, hb⟩; refine ⟨_, rfl, ?_⟩; have n0_ := Aside0.mk (blk_below (g := gb101) (o := .cells #[.slice A0_0 l0_0.length c0_0, .slice A0_1 l0_1.length c0_1] 26 (0, 0)) (pY40) hb); have n1_ := Aside0.mk (below_step (pY37) hb); clear BK101; clear HB; have BK101 := n0_; have HB := n1_; clear n0_ n1_; (try clear hb); (try clear hb2); (try clear hk); (try clear hi); have hcz102_0 : w101.cell? ⟨gb101, 0, none⟩ = some (.slice A0_0 l0_0.length c0_0) := (blk_cell BK101.out 0).trans rfl; have hcz102_1 : w101.cell? ⟨gb101, 1, none⟩ = some (.slice A0_1 l0_1.length c0_1) := (blk_cell BK101.out 1).trans rfl; have hfz102_0 := blk_frozen BK101.out 0; have hfz102_1 := blk_frozen BK101.out 1) | ((with_reducible refine gate_callee (f := 23) rfl ?_); refine goesL_ (some 22) rfl rfl Try.func23 (by kernel_rfl) rfl #[.agg #[.slice A0_0 l0_0.length c0_0, .slice A0_1 l0_1.length c0_1]] rfl (pY38) ?_; (with_reducible refine (laws_toShareBook.calls k _ _ l0_0 _ _ l0_1 t103 t106 _ ?side1 ?side2 ?side3 ?side4 A10.out).mono ?_); (case side1 => exact pC (Kd.C_below HR0_0.out HB.out)); (case side2 => exact HC0_0.out); (case side3 => exact pC (Kd.C_below HR0_1.out HB.out)); (case side4 => exact HC0_1.out); rintro e w103 ⟨v104, v107, rfl, ho0, ho1, hb⟩; refine ⟨_, rfl, ?_⟩; have n0_ := Aside0.mk (Kd.R_lower ho0 (below_size (pY37))); have n1_ := Aside0.mk (Kd.S_lower ho1 (below_size (pY37))); have n2_ := Aside0.mk (blk_below (g := gb101) (o := .cells #[.slice A0_0 l0_0.length c0_0, .slice A0_1 l0_1.length c0_1] 26 (0, 0)) (pY40) hb); have n3_ := Aside0.mk (below_step (pY37) hb); clear BK101; clear HB; have HO105 := n0_; have HO108 := n1_; have BK101 := n2_; have HB := n3_; clear n0_ n1_ n2_ n3_; (try clear hb); (try clear hb2); (try clear hk); (try clear hi); (try clear ho0); (try clear ho1); obtain ⟨Ao104, co104, eo104⟩ := Kd.R_slice HO105.out; subst eo104; obtain ⟨Ao105, co105, eo105⟩ := Kd.S_slice HO108.out; subst eo105) | ((with_reducible refine gate_callee (f := 37) rfl ?_); refine goesL_ (some 24) rfl rfl Try.func37 (by kernel_rfl) rfl #[.agg #[.slice Ao104 t103.length co104, .slice Ao105 t106.length co105], .string a1] rfl (pY38) ?_; (with_reducible refine (spec_ShareWaits.calls k _ _ t103 _ _ t106 a1 t109 _ ?side1 ?side2 ?side3 ?side4 A11.out).mono ?_); (case side1 => exact pC (Kd.R_reads' HO105.out).2.2); (case side2 => exact (Kd.R_reads' HO105.out).2.1); (case side3 => exact pC (Kd.S_reads' HO108.out).2.2); (case side4 => exact (Kd.S_reads' HO108.out).2.1); rintro e w106 ⟨v110, rfl, ho0, hb⟩; refine ⟨_, rfl, ?_⟩; have n0_ := Aside0.mk (Kd.R_elder' (pY44) (Kd.R_base ho0) hb); have n1_ := Aside0.mk (Kd.S_elder' (pY45) (Kd.R_base ho0) hb); have n2_ := Aside0.mk (Kd.R_lower (Kd.R_new' ho0 (Kd.R_lt (pY44))) (below_size (pY37))); have n3_ := Aside0.mk (blk_below (g := gb101) (o := .cells #[.slice A0_0 l0_0.length c0_0, .slice A0_1 l0_1.length c0_1] 26 (0, 0)) (pY40) hb); have n4_ := Aside0.mk (below_step (pY37) hb); clear HO105; clear HO108; clear BK101; clear HB; have HO105 := n0_; have HO108 := n1_; have HO111 := n2_; have BK101 := n3_; have HB := n4_; clear n0_ n1_ n2_ n3_ n4_; (try clear hb); (try clear hb2); (try clear hk); (try clear hi); (try clear ho0); have hcz107_0 : w106.cell? ⟨gb101, 0, none⟩ = some (.slice A0_0 l0_0.length c0_0) := (blk_cell BK101.out 0).trans rfl; have hcz107_1 : w106.cell? ⟨gb101, 1, none⟩ = some (.slice A0_1 l0_1.length c0_1) := (blk_cell BK101.out 1).trans rfl; have hfz107_0 := blk_frozen BK101.out 0; have hfz107_1 := blk_frozen BK101.out 1) | ((with_reducible refine gate_callee (f := 23) rfl ?_); refine goesL_ (some 26) rfl rfl Try.func23 (by kernel_rfl) rfl #[.agg #[.slice A0_0 l0_0.length c0_0, .slice A0_1 l0_1.length c0_1]] rfl (pY38) ?_; (with_reducible refine (laws_toShareBook.calls k _ _ l0_0 _ _ l0_1 t112 t115 _ ?side1 ?side2 ?side3 ?side4 A12.out).mono ?_); (case side1 => exact pC (Kd.C_below HR0_0.out HB.out)); (case side2 => exact HC0_0.out); (case side3 => exact pC (Kd.C_below HR0_1.out HB.out)); (case side4 => exact HC0_1.out); rintro e w108 ⟨v113, v116, rfl, ho0, ho1, hb⟩; refine ⟨_, rfl, ?_⟩; have n0_ := Aside0.mk (Kd.R_elder' (pY44) (Kd.R_base ho0) hb); have n1_ := Aside0.mk (Kd.S_mono (Kd.S_told (Kd.S_told (Kd.S_old (pY45) hb) (Kd.R_base ho0)) (Kd.S_base ho1)) (fun _ h_ => h_.1)); have n2_ := Aside0.mk (Kd.R_elder' (pY46) (Kd.R_base ho0) hb); have n3_ := Aside0.mk (Kd.R_lower (Kd.R_new' (Kd.R_new' ho0 (Kd.R_lt (pY44))) (Kd.R_lt (pY46))) (below_size (pY37))); have n4_ := Aside0.mk (Kd.S_lower (Kd.S_new' (Kd.S_new' (Kd.S_new' ho1 (Kd.R_lt (pY44))) (Kd.S_lt (pY45))) (Kd.R_lt (pY46))) (below_size (pY37))); have n5_ := Aside0.mk (blk_below (g := gb101) (o := .cells #[.slice A0_0 l0_0.length c0_0, .slice A0_1 l0_1.length c0_1] 26 (0, 0)) (pY40) hb); have n6_ := Aside0.mk (below_step (pY37) hb); clear HO105; clear HO108; clear HO111; clear BK101; clear HB; have HO105 := n0_; have HO108 := n1_; have HO111 := n2_; have HO114 := n3_; have HO117 := n4_; have BK101 := n5_; have HB := n6_; clear n0_ n1_ n2_ n3_ n4_ n5_ n6_; (try clear hb); (try clear hb2); (try clear hk); (try clear hi); (try clear ho0); (try clear ho1)) | ((with_reducible refine gate_dst (N := 7) rfl ?_); refine box_event ?hg (N := 7) ?hd (cs := #[.slice none 0 0, .slice none 0 0]) (t := 31) ?hr ?_; (case hd => rfl); (case hg => rfl); (case hr => first | (go_simp; done) | (go_simp; rfl)); intro gb118 hg w109 hbox hb; have n0_ := Aside0.mk (Kd.R_below (pY44) hb); have n1_ := Aside0.mk (Kd.S_below (pY45) hb); have n2_ := Aside0.mk (Kd.R_below (pY46) hb); have n3_ := Aside0.mk (Kd.R_below (pY47) hb); have n4_ := Aside0.mk (Kd.S_below (pY48) hb); have n5_ := Aside0.mk (blk_below (g := gb101) (o := .cells #[.slice A0_0 l0_0.length c0_0, .slice A0_1 l0_1.length c0_1] 26 (0, 0)) (pY40) hb); have n6_ := Aside0.mk (below_step (pY37) hb); have n7_ := Aside0.mk (hbox); have n8_ := Aside0.mk ((pY27 : w.heap.size ≤ gb118)); have n9_ := Aside0.mk ((pY27 : w.heap.size ≤ gb118)); have n10_ := Aside0.mk ((pY19 : gb101 ≠ gb118)); have n11_ := Aside0.mk ((pY20 : gb118 ≠ gb101)); clear HO105; clear HO108; clear HO111; clear HO114; clear HO117; clear BK101; clear HB; have HO105 := n0_; have HO108 := n1_; have HO111 := n2_; have HO114 := n3_; have HO117 := n4_; have BK101 := n5_; have HB := n6_; have BK118 := n7_; have GW118 := n8_; have GE118 := n9_; have NB101_118 := n10_; have NB118_101 := n11_; clear n0_ n1_ n2_ n3_ n4_ n5_ n6_ n7_ n8_ n9_ n10_ n11_; clear hb hbox hg; obtain ⟨Ao110, co110, eo110⟩ := Kd.R_slice HO114.out; subst eo110; have hnb111 := NB118_101.out; have hnc111 := NB101_118.out; have hcz112_0 : w109.cell? ⟨gb118, 0, none⟩ = some (.slice none 0 0) := (blk_cell BK118.out 0).trans rfl; have hcz112_1 : w109.cell? ⟨gb118, 1, none⟩ = some (.slice none 0 0) := (blk_cell BK118.out 1).trans rfl; have hfz112_0 := blk_frozen BK118.out 0; have hfz112_1 := blk_frozen BK118.out 1; obtain ⟨Ao113, co113, eo113⟩ := Kd.S_slice HO117.out; subst eo113) | ((with_reducible refine gate_callee (f := 38) rfl ?_); refine goesL_ (some 29) rfl rfl Try.func38 (by kernel_rfl) rfl #[.agg #[.slice Ao110 t112.length co110, .slice Ao113 t115.length co113], .string a1] rfl (pY38) ?_; (with_reducible refine (impl_ShareWaits.calls k _ _ t112 _ _ t115 a1 t119 _ ?side1 ?side2 ?side3 ?side4 A13.out).mono ?_); (case side1 => refine (Kd.R_reads' (e := 9) (base := w.heap.size) (ok := fun k_ => ((True ∧ some k_ ≠ (.slice Ao104 t103.length co104 : Value).ownBlock) ∧ some k_ ≠ (v110 : Value).ownBlock)) (n := t112.length) (c := co110) ?_).2.2; exact (pY6)); (case side2 => exact (Kd.R_reads' HO114.out).2.1); (case side3 => refine (Kd.S_reads' (e := 56) (base := w.heap.size) (ok := fun k_ => (((some k_ ≠ (.slice Ao110 t112.length co110 : Value).ownBlock ∧ some k_ ≠ (.slice Ao104 t103.length co104 : Value).ownBlock) ∧ some k_ ≠ (.slice Ao105 t106.length co105 : Value).ownBlock) ∧ some k_ ≠ (v110 : Value).ownBlock)) (n := t115.length) (c := co113) ?_).2.2; exact (by (with_reducible repeat (first | apply Kd.S_alloc | apply Kd.S_drewN | apply Kd.S_drew)); exact (Kd.S_mono (Kd.S_far (p := ⟨gb118, 1, none⟩) (Kd.S_far (p := ⟨gb118, 0, none⟩) (Kd.S_types HO117.out BK118.out (by decide)) (fun _ hk => hk.2) (.slice Ao110 t112.length co110)) (fun _ hk => hk.2) (.slice Ao113 t115.length co113)) (fun _ h_ => h_.1)))); (case side4 => exact (Kd.S_reads' HO117.out).2.1); rintro e w114 ⟨v120, rfl, ho0, hb⟩; refine ⟨_, rfl, ?_⟩; have n0_ := Aside0.mk (Kd.R_elder' (by (with_reducible repeat (first | apply Kd.R_alloc | apply Kd.R_drewN | apply Kd.R_drew)); exact (Kd.R_mono (Kd.R_far (p := ⟨gb118, 1, none⟩) (Kd.R_far (p := ⟨gb118, 0, none⟩) (Kd.R_types HO105.out BK118.out (by decide)) (fun _ hk => hk.2) (.slice Ao110 t112.length co110)) (fun _ hk => hk.2) (.slice Ao113 t115.length co113)) (fun _ h_ => h_.1))) (Kd.R_base ho0) hb); have n1_ := Aside0.mk (Kd.S_elder' (by (with_reducible repeat (first | apply Kd.S_alloc | apply Kd.S_drewN | apply Kd.S_drew)); exact (Kd.S_mono (Kd.S_far (p := ⟨gb118, 1, none⟩) (Kd.S_far (p := ⟨gb118, 0, none⟩) (Kd.S_types HO108.out BK118.out (by decide)) (fun _ hk => hk.2) (.slice Ao110 t112.length co110)) (fun _ hk => hk.2) (.slice Ao113 t115.length co113)) (fun _ h_ => h_.1))) (Kd.R_base ho0) hb); have n2_ := Aside0.mk (Kd.R_elder' (by (with_reducible repeat (first | apply Kd.R_alloc | apply Kd.R_drewN | apply Kd.R_drew)); exact (Kd.R_mono (Kd.R_far (p := ⟨gb118, 1, none⟩) (Kd.R_far (p := ⟨gb118, 0, none⟩) (Kd.R_types HO111.out BK118.out (by decide)) (fun _ hk => hk.2) (.slice Ao110 t112.length co110)) (fun _ hk => hk.2) (.slice Ao113 t115.length co113)) (fun _ h_ => h_.1))) (Kd.R_base ho0) hb); have n3_ := Aside0.mk (Kd.R_elder' (pY6) (Kd.R_base ho0) hb); have n4_ := Aside0.mk (Kd.S_elder' (by (with_reducible repeat (first | apply Kd.S_alloc | apply Kd.S_drewN | apply Kd.S_drew)); exact (Kd.S_mono (Kd.S_far (p := ⟨gb118, 1, none⟩) (Kd.S_far (p := ⟨gb118, 0, none⟩) (Kd.S_types HO117.out BK118.out (by decide)) (fun _ hk => hk.2) (.slice Ao110 t112.length co110)) (fun _ hk => hk.2) (.slice Ao113 t115.length co113)) (fun _ h_ => h_.1))) (Kd.R_base ho0) hb); have n5_ := Aside0.mk (Kd.R_lower (Kd.R_new' (Kd.R_new' (Kd.R_new' ho0 (Kd.R_lt (by (with_reducible repeat (first | apply Kd.R_alloc | apply Kd.R_drewN | apply Kd.R_drew)); exact (Kd.R_mono (Kd.R_far (p := ⟨gb118, 1, none⟩) (Kd.R_far (p := ⟨gb118, 0, none⟩) (Kd.R_types HO105.out BK118.out (by decide)) (fun _ hk => hk.2) (.slice Ao110 t112.length co110)) (fun _ hk => hk.2) (.slice Ao113 t115.length co113)) (fun _ h_ => h_.1))))) (Kd.R_lt (by (with_reducible repeat (first | apply Kd.R_alloc | apply Kd.R_drewN | apply Kd.R_drew)); exact (Kd.R_mono (Kd.R_far (p := ⟨gb118, 1, none⟩) (Kd.R_far (p := ⟨gb118, 0, none⟩) (Kd.R_types HO111.out BK118.out (by decide)) (fun _ hk => hk.2) (.slice Ao110 t112.length co110)) (fun _ hk => hk.2) (.slice Ao113 t115.length co113)) (fun _ h_ => h_.1))))) (Kd.R_lt (pY6))) (below_size (pY34))); have n6_ := Aside0.mk (blk_below (g := gb101) (o := .cells #[.slice A0_0 l0_0.length c0_0, .slice A0_1 l0_1.length c0_1] 26 (0, 0)) (pY5) hb); have n7_ := Aside0.mk (blk_below (g := gb118) (o := .cells #[.slice Ao110 t112.length co110, .slice Ao113 t115.length co113] 31 (0, 0)) (by (with_reducible repeat (first | refine blk_drewN ?_ _ | refine blk_drew ?_ | refine blk_alloc ?_ _)); refine blk_put (cs := #[.slice Ao110 t112.length co110, .slice none 0 0]) ?_ 1 _ rfl; (with_reducible repeat (first | refine blk_drewN ?_ _ | refine blk_drew ?_ | refine blk_alloc ?_ _)); refine blk_put (cs := #[.slice none 0 0, .slice none 0 0]) ?_ 0 _ rfl; (with_reducible repeat (first | refine blk_drewN ?_ _ | refine blk_drew ?_ | refine blk_alloc ?_ _)); exact BK118.out) hb); have n8_ := Aside0.mk (below_step (pY34) hb); clear HO105; clear HO108; clear HO111; clear HO114; clear HO117; clear BK101; clear BK118; clear HB; have HO105 := n0_; have HO108 := n1_; have HO111 := n2_; have HO114 := n3_; have HO117 := n4_; have HO121 := n5_; have BK101 := n6_; have BK118 := n7_; have HB := n8_; clear n0_ n1_ n2_ n3_ n4_ n5_ n6_ n7_ n8_; (try clear hb); (try clear hb2); (try clear hk); (try clear hi); (try clear ho0); obtain ⟨Ao115, co115, eo115⟩ := Kd.R_slice HO121.out; subst eo115; obtain ⟨Ao116, co116, eo116⟩ := Kd.R_slice HO111.out; subst eo116) | ((with_reducible refine gate_callee (f := 34) rfl ?_); refine goesL_ (some 32) rfl rfl Try.func34 (by kernel_rfl) rfl #[.slice Ao115 t119.length co115, .slice Ao116 t109.length co116] rfl (pY38) ?_; (with_reducible refine (laws_eqStringS.calls k _ _ t119 _ _ t109 true _ ?side1 ?side2 ?side3 ?side4 A14.out).mono ?_); (case side1 => exact pC (Kd.R_reads' HO121.out).2.2); (case side2 => exact (Kd.R_reads' HO121.out).2.1); (case side3 => exact pC (Kd.R_reads' HO111.out).2.2); (case side4 => exact (Kd.R_reads' HO111.out).2.1); rintro e w' ⟨rfl, ⟨nd, rfl⟩⟩; refine ⟨_, rfl, ?_⟩))
     (try (rw [drewN_self w114]; generalize hq_ : World.drewN w114 _ = w114; have n0_ : Aside0 (Kd.R Kd.string 9 w114 w.heap.size (fun k_ => (((True ∧ some k_ ≠ (.slice Ao116 t109.length co116 : Value).ownBlock) ∧ some k_ ≠ (.slice Ao110 t112.length co110 : Value).ownBlock) ∧ some k_ ≠ (.slice Ao115 t119.length co115 : Value).ownBlock)) (.slice Ao104 t103.length co104) t103) := ⟨by rw [← hq_]; exact (pY44)⟩; have n1_ : Aside0 (Kd.S k56 56 w114 w.heap.size (fun k_ => ((((some k_ ≠ (.slice Ao104 t103.length co104 : Value).ownBlock ∧ some k_ ≠ (.slice Ao116 t109.length co116 : Value).ownBlock) ∧ some k_ ≠ (.slice Ao110 t112.length co110 : Value).ownBlock) ∧ some k_ ≠ (.slice Ao113 t115.length co113 : Value).ownBlock) ∧ some k_ ≠ (.slice Ao115 t119.length co115 : Value).ownBlock)) (.slice Ao105 t106.length co105) t106) := ⟨by rw [← hq_]; exact (pY45)⟩; have n2_ : Aside0 (Kd.R Kd.string 9 w114 w.heap.size (fun k_ => (((True ∧ some k_ ≠ (.slice Ao104 t103.length co104 : Value).ownBlock) ∧ some k_ ≠ (.slice Ao110 t112.length co110 : Value).ownBlock) ∧ some k_ ≠ (.slice Ao115 t119.length co115 : Value).ownBlock)) (.slice Ao116 t109.length co116) t109) := ⟨by rw [← hq_]; exact (pY46)⟩; have n3_ : Aside0 (Kd.R Kd.string 9 w114 w.heap.size (fun k_ => (((True ∧ some k_ ≠ (.slice Ao104 t103.length co104 : Value).ownBlock) ∧ some k_ ≠ (.slice Ao116 t109.length co116 : Value).ownBlock) ∧ some k_ ≠ (.slice Ao115 t119.length co115 : Value).ownBlock)) (.slice Ao110 t112.length co110) t112) := ⟨by rw [← hq_]; exact (pY47)⟩; have n4_ : Aside0 (Kd.S k56 56 w114 w.heap.size (fun k_ => ((((some k_ ≠ (.slice Ao110 t112.length co110 : Value).ownBlock ∧ some k_ ≠ (.slice Ao104 t103.length co104 : Value).ownBlock) ∧ some k_ ≠ (.slice Ao105 t106.length co105 : Value).ownBlock) ∧ some k_ ≠ (.slice Ao116 t109.length co116 : Value).ownBlock) ∧ some k_ ≠ (.slice Ao115 t119.length co115 : Value).ownBlock)) (.slice Ao113 t115.length co113) t115) := ⟨by rw [← hq_]; exact (pY48)⟩; have n5_ : Aside0 (Kd.R Kd.string 9 w114 w.heap.size (fun k_ => (((True ∧ some k_ ≠ (.slice Ao104 t103.length co104 : Value).ownBlock) ∧ some k_ ≠ (.slice Ao116 t109.length co116 : Value).ownBlock) ∧ some k_ ≠ (.slice Ao110 t112.length co110 : Value).ownBlock)) (.slice Ao115 t119.length co115) t119) := ⟨by rw [← hq_]; exact (pY49)⟩; have n6_ : Aside0 (w114.heap[gb101]? = some (.cells #[.slice A0_0 l0_0.length c0_0, .slice A0_1 l0_1.length c0_1] 26 (0, 0))) := ⟨by rw [← hq_]; exact (pY40)⟩; have n7_ : Aside0 (w114.heap[gb118]? = some (.cells #[.slice Ao110 t112.length co110, .slice Ao113 t115.length co113] 31 (0, 0))) := ⟨by rw [← hq_]; exact (pY42)⟩; have n8_ : Aside0 (Below w.heap.size w w114) := ⟨by rw [← hq_]; exact (pY34)⟩; clear HO105 HO108 HO111 HO114 HO117 HO121 BK101 BK118 HB hq_; have HO105 := n0_; have HO108 := n1_; have HO111 := n2_; have HO114 := n3_; have HO117 := n4_; have HO121 := n5_; have BK101 := n6_; have BK118 := n7_; have HB := n8_; clear n0_ n1_ n2_ n3_ n4_ n5_ n6_ n7_ n8_))
     have n0_ := Aside0.mk (Kd.R_drew HO105.out)
     have n1_ := Aside0.mk (Kd.S_drew HO108.out)
     have n2_ := Aside0.mk (Kd.R_drew HO111.out)
     have n3_ := Aside0.mk (Kd.R_drew HO114.out)
     have n4_ := Aside0.mk (Kd.S_drew HO117.out)
     have n5_ := Aside0.mk (Kd.R_drew HO121.out)
     have n6_ := Aside0.mk (blk_drew BK101.out)
     have n7_ := Aside0.mk (blk_drew BK118.out)
     have n8_ := Aside0.mk (below_drew1 HB.out)
     clear HO105
     clear HO108
     clear HO111
     clear HO114
     clear HO117
     clear HO121
     clear BK101
     clear BK118
     clear HB
     have HO105 := n0_
     have HO108 := n1_
     have HO111 := n2_
     have HO114 := n3_
     have HO117 := n4_
     have HO121 := n5_
     have BK101 := n6_
     have BK118 := n7_
     have HB := n8_
     clear n0_ n1_ n2_ n3_ n4_ n5_ n6_ n7_ n8_
     refine start_ (n := 5) (S := fun w' => w'.cell? ⟨gb118, 0, none⟩ = some (.slice Ao110 t112.length co110) ∧ w'.cell? ⟨gb118, 1, none⟩ = some (.slice Ao113 t115.length co113) ∧ w'.cell? ⟨gb101, 0, none⟩ = some (.slice A0_0 l0_0.length c0_0) ∧ w'.cell? ⟨gb101, 1, none⟩ = some (.slice A0_1 l0_1.length c0_1)) (ds := []) #[false, false, false, false, false] (by kernel_rfl) rfl rfl ⟨(blk_cell BK118.out 0).trans rfl, (blk_cell BK118.out 1).trans rfl, (blk_cell BK101.out 0).trans rfl, (blk_cell BK101.out 1).trans rfl⟩ (fun hHeld => ?_)
     generalize w114.drew = w117 at HO105 HO108 HO111 HO114 HO117 HO121 BK101 BK118 HB hHeld ⊢
     refine tK4_ (i := 0) (N := some 34) #[true, false, false, false, false] ?_
     refine tK4_ (i := 1) (N := some 35) #[true, true, false, false, false] ?_
     refine one_ (i := 2) (N := some 36) #[true, true, true, false, false] rfl rfl (by kernel_rfl) (by decide) (fun K hK => ?_)
     refine goes_ Try.func23 (by kernel_rfl) rfl #[.agg #[.slice A0_0 l0_0.length c0_0, .slice A0_1 l0_1.length c0_1]] (by rfl) rfl rfl (pY38) ?_
     with_reducible refine (laws_toShareBook.calls k _ _ l0_0 _ _ l0_1 t123 t126 _ ?side1 ?side2 ?side3 ?side4 A16.out).mono ?_
     (case side1 => exact pC (Kd.C_below HR0_0.out HB.out))
     (case side2 => exact HC0_0.out)
     (case side3 => exact pC (Kd.C_below HR0_1.out HB.out))
     (case side4 => exact HC0_1.out)
     rintro e w118 ⟨v124, v127, rfl, ho0, ho1, hb⟩
     refine ⟨_, rfl, ?_⟩
     have n0_ := Aside0.mk (Kd.R_elder' (pY44) (Kd.R_base ho0) hb)
     have n1_ := Aside0.mk (Kd.S_mono (Kd.S_told (Kd.S_told (Kd.S_old (pY45) hb) (Kd.R_base ho0)) (Kd.S_base ho1)) (fun _ h_ => h_.1))
     have n2_ := Aside0.mk (Kd.R_elder' (pY46) (Kd.R_base ho0) hb)
     have n3_ := Aside0.mk (Kd.R_elder' (pY47) (Kd.R_base ho0) hb)
     have n4_ := Aside0.mk (Kd.S_mono (Kd.S_told (Kd.S_told (Kd.S_old (pY48) hb) (Kd.R_base ho0)) (Kd.S_base ho1)) (fun _ h_ => h_.1))
     have n5_ := Aside0.mk (Kd.R_elder' (pY49) (Kd.R_base ho0) hb)
     have n6_ := Aside0.mk (Kd.R_lower (Kd.R_new' (Kd.R_new' (Kd.R_new' (Kd.R_new' ho0 (Kd.R_lt (pY44))) (Kd.R_lt (pY46))) (Kd.R_lt (pY47))) (Kd.R_lt (pY49))) (below_size (pY34)))
     have n7_ := Aside0.mk (Kd.S_lower (Kd.S_new' (Kd.S_new' (Kd.S_new' (Kd.S_new' (Kd.S_new' (Kd.S_new' ho1 (Kd.R_lt (pY44))) (Kd.S_lt (pY45))) (Kd.R_lt (pY46))) (Kd.R_lt (pY47))) (Kd.S_lt (pY48))) (Kd.R_lt (pY49))) (below_size (pY34)))
     have n8_ := Aside0.mk (blk_below (g := gb101) (o := .cells #[.slice A0_0 l0_0.length c0_0, .slice A0_1 l0_1.length c0_1] 26 (0, 0)) (pY40) hb)
     have n9_ := Aside0.mk (blk_below (g := gb118) (o := .cells #[.slice Ao110 t112.length co110, .slice Ao113 t115.length co113] 31 (0, 0)) (pY42) hb)
     have n10_ := Aside0.mk (below_step (pY34) hb)
     clear HO105
     clear HO108
     clear HO111
     clear HO114
     clear HO117
     clear HO121
     clear BK101
     clear BK118
     clear HB
     have HO105 := n0_
     have HO108 := n1_
     have HO111 := n2_
     have HO114 := n3_
     have HO117 := n4_
     have HO121 := n5_
     have HO125 := n6_
     have HO128 := n7_
     have BK101 := n8_
     have BK118 := n9_
     have HB := n10_
     clear n0_ n1_ n2_ n3_ n4_ n5_ n6_ n7_ n8_ n9_ n10_
     (try clear hb)
     (try clear hb2)
     (try clear hk)
     (try clear hi)
     (try clear ho0)
     (try clear ho1)
     obtain ⟨Ao119, co119, eo119⟩ := Kd.R_slice HO125.out
     (first | subst eo119 | (injection eo119 with f1_ f2_ f3_; have f4_ := f1_.symm; have f5_ := f3_.symm; clear f1_ f2_ f3_; subst f4_; subst f5_))
     obtain ⟨Ao120, co120, eo120⟩ := Kd.S_slice HO128.out
     (first | subst eo120 | (injection eo120 with f1_ f2_ f3_; have f4_ := f1_.symm; have f5_ := f3_.symm; clear f1_ f2_ f3_; subst f4_; subst f5_))
     refine hK.out _ _ ⟨(blk_cell BK118.out 0).trans rfl, (blk_cell BK118.out 1).trans rfl, (blk_cell BK101.out 0).trans rfl, (blk_cell BK101.out 1).trans rfl⟩ (fun hHeld => ?_)
     clear hK K
     refine norm_ (a' := ?_) ?_ ?_
     rotate_left
     ·show Act.put _ (some 36) _ = _
      simp only [pW]
      rfl
     refine one_ (i := 3) (N := some 37) #[true, true, true, true, false] rfl rfl (by kernel_rfl) (by decide) (fun K hK => ?_)
     refine goes_ Try.func25 (by kernel_rfl) rfl #[.agg #[.slice Ao110 t112.length co110, .slice Ao113 t115.length co113], .agg #[.slice Ao119 t123.length co119, .slice Ao120 t126.length co120]] (by rfl) rfl rfl (pY38) ?_
     with_reducible refine (laws_eqShareBook.calls k _ _ t112 _ _ t115 _ _ t123 _ _ t126 false _ ?side1 ?side2 ?side3 ?side4 ?side5 ?side6 ?side7 ?side8 A17.out).mono ?_
     (case side1 => exact pC (Kd.R_reads' HO114.out).2.2)
     (case side2 => exact (Kd.R_reads' HO114.out).2.1)
     (case side3 => exact pC (Kd.S_reads' HO117.out).2.2)
     (case side4 => exact (Kd.S_reads' HO117.out).2.1)
     (case side5 => exact pC (Kd.R_reads' HO125.out).2.2)
     (case side6 => exact (Kd.R_reads' HO125.out).2.1)
     (case side7 => exact pC (Kd.S_reads' HO128.out).2.2)
     (case side8 => exact (Kd.S_reads' HO128.out).2.1)
     rintro e w121 ⟨rfl, hb⟩
     refine ⟨_, rfl, ?_⟩
     have n0_ := Aside0.mk (Kd.R_below (pY44) hb)
     have n1_ := Aside0.mk (Kd.S_below (pY45) hb)
     have n2_ := Aside0.mk (Kd.R_below (pY46) hb)
     have n3_ := Aside0.mk (Kd.R_below (pY47) hb)
     have n4_ := Aside0.mk (Kd.S_below (pY48) hb)
     have n5_ := Aside0.mk (Kd.R_below (pY49) hb)
     have n6_ := Aside0.mk (Kd.R_below (by (with_reducible repeat (first | apply Kd.R_alloc | apply Kd.R_drewN | apply Kd.R_drew)); exact HO125.out) hb)
     have n7_ := Aside0.mk (Kd.S_below (by (with_reducible repeat (first | apply Kd.S_alloc | apply Kd.S_drewN | apply Kd.S_drew)); exact HO128.out) hb)
     have n8_ := Aside0.mk (blk_below (g := gb101) (o := .cells #[.slice A0_0 l0_0.length c0_0, .slice A0_1 l0_1.length c0_1] 26 (0, 0)) (pY40) hb)
     have n9_ := Aside0.mk (blk_below (g := gb118) (o := .cells #[.slice Ao110 t112.length co110, .slice Ao113 t115.length co113] 31 (0, 0)) (pY42) hb)
     have n10_ := Aside0.mk (below_step (pY34) hb)
     clear HO105
     clear HO108
     clear HO111
     clear HO114
     clear HO117
     clear HO121
     clear HO125
     clear HO128
     clear BK101
     clear BK118
     clear HB
     have HO105 := n0_
     have HO108 := n1_
     have HO111 := n2_
     have HO114 := n3_
     have HO117 := n4_
     have HO121 := n5_
     have HO125 := n6_
     have HO128 := n7_
     have BK101 := n8_
     have BK118 := n9_
     have HB := n10_
     clear n0_ n1_ n2_ n3_ n4_ n5_ n6_ n7_ n8_ n9_ n10_
     (try clear hb)
     (try clear hb2)
     (try clear hk)
     (try clear hi)
     refine hK.out _ _ ⟨(blk_cell BK118.out 0).trans rfl, (blk_cell BK118.out 1).trans rfl, (blk_cell BK101.out 0).trans rfl, (blk_cell BK101.out 1).trans rfl⟩ (fun hHeld => ?_)
     clear hK K
     refine norm_ (a' := ?_) ?_ ?_
     rotate_left
     ·show Act.put _ (some 37) _ = _
      simp only [pW]
      rfl
     refine pU0 (i := 4) (N := some 38) #[true, true, true, true, true] ?_
     refine done_ (by kernel_rfl) ?_
     try go_wp2
     go_ret
     exact ⟨by first | rfl | (simp [errW_none, errW_some] <;> rfl) | (simp [*, errW_none, errW_some] <;> rfl), pY34⟩
   ·replace c15 := Bool.eq_false_iff.mpr c15
    subst c15
    have H1 : (some false) = some r := by rw [if_neg (show ¬ (false = true) by decide)] at H; exact H
    clear H
    have H := H1
    clear H1
    obtain rfl := Option.some.inj H
    go_enter Try.func9, Try.ntmps9
    go_wp2_with (first | ((with_reducible refine gate_dst (N := 2) rfl ?_); refine box_event ?hg (N := 2) ?hd (cs := #[.slice A0_0 l0_0.length c0_0, .slice A0_1 l0_1.length c0_1]) (t := 26) ?hr ?_; (case hd => rfl); (case hg => rfl); (case hr => first | (go_simp; done) | (go_simp; rfl)); intro gb101 hg w122 hbox hb; have n0_ := Aside0.mk (below_step (pY39) hb); have n1_ := Aside0.mk (hbox); have n2_ := Aside0.mk ((pY36 : w.heap.size ≤ gb101)); have n3_ := Aside0.mk ((pY36 : w.heap.size ≤ gb101)); clear HB; have HB := n0_; have BK101 := n1_; have GW101 := n2_; have GE101 := n3_; clear n0_ n1_ n2_ n3_; clear hb hbox hg; have hcz123_0 : w122.cell? ⟨gb101, 0, none⟩ = some (.slice A0_0 l0_0.length c0_0) := (blk_cell BK101.out 0).trans rfl; have hcz123_1 : w122.cell? ⟨gb101, 1, none⟩ = some (.slice A0_1 l0_1.length c0_1) := (blk_cell BK101.out 1).trans rfl; have hfz123_0 := blk_frozen BK101.out 0; have hfz123_1 := blk_frozen BK101.out 1) | ((with_reducible refine gate_callee (f := 21) rfl ?_); refine goesL_ (some 18) rfl rfl Try.func21 (by kernel_rfl) rfl #[.agg #[.slice A0_0 l0_0.length c0_0, .slice A0_1 l0_1.length c0_1], .int .i64 1048576] rfl (pY38) ?_; (with_reducible refine (laws_szShareBook.calls k _ _ l0_0 _ _ l0_1 1048576 t102 _ ?side1 ?side2 ?side3 ?side4 A5.out).mono ?_); (case side1 => exact pC (Kd.C_below HR0_0.out HB.out)); (case side2 => exact HC0_0.out); (case side3 => exact pC (Kd.C_below HR0_1.out HB.out)); (case side4 => exact HC0_1.out); rintro e w124 ⟨rfl, hb⟩; refine ⟨_, rfl, ?_⟩; have n0_ := Aside0.mk (blk_below (g := gb101) (o := .cells #[.slice A0_0 l0_0.length c0_0, .slice A0_1 l0_1.length c0_1] 26 (0, 0)) (pY40) hb); have n1_ := Aside0.mk (below_step (pY37) hb); clear BK101; clear HB; have BK101 := n0_; have HB := n1_; clear n0_ n1_; (try clear hb); (try clear hb2); (try clear hk); (try clear hi); have hcz125_0 : w124.cell? ⟨gb101, 0, none⟩ = some (.slice A0_0 l0_0.length c0_0) := (blk_cell BK101.out 0).trans rfl; have hcz125_1 : w124.cell? ⟨gb101, 1, none⟩ = some (.slice A0_1 l0_1.length c0_1) := (blk_cell BK101.out 1).trans rfl; have hfz125_0 := blk_frozen BK101.out 0; have hfz125_1 := blk_frozen BK101.out 1) | ((with_reducible refine gate_callee (f := 23) rfl ?_); refine goesL_ (some 22) rfl rfl Try.func23 (by kernel_rfl) rfl #[.agg #[.slice A0_0 l0_0.length c0_0, .slice A0_1 l0_1.length c0_1]] rfl (pY38) ?_; (with_reducible refine (laws_toShareBook.calls k _ _ l0_0 _ _ l0_1 t103 t106 _ ?side1 ?side2 ?side3 ?side4 A10.out).mono ?_); (case side1 => exact pC (Kd.C_below HR0_0.out HB.out)); (case side2 => exact HC0_0.out); (case side3 => exact pC (Kd.C_below HR0_1.out HB.out)); (case side4 => exact HC0_1.out); rintro e w126 ⟨v104, v107, rfl, ho0, ho1, hb⟩; refine ⟨_, rfl, ?_⟩; have n0_ := Aside0.mk (Kd.R_lower ho0 (below_size (pY37))); have n1_ := Aside0.mk (Kd.S_lower ho1 (below_size (pY37))); have n2_ := Aside0.mk (blk_below (g := gb101) (o := .cells #[.slice A0_0 l0_0.length c0_0, .slice A0_1 l0_1.length c0_1] 26 (0, 0)) (pY40) hb); have n3_ := Aside0.mk (below_step (pY37) hb); clear BK101; clear HB; have HO105 := n0_; have HO108 := n1_; have BK101 := n2_; have HB := n3_; clear n0_ n1_ n2_ n3_; (try clear hb); (try clear hb2); (try clear hk); (try clear hi); (try clear ho0); (try clear ho1); obtain ⟨Ao127, co127, eo127⟩ := Kd.R_slice HO105.out; subst eo127; obtain ⟨Ao128, co128, eo128⟩ := Kd.S_slice HO108.out; subst eo128) | ((with_reducible refine gate_callee (f := 37) rfl ?_); refine goesL_ (some 24) rfl rfl Try.func37 (by kernel_rfl) rfl #[.agg #[.slice Ao127 t103.length co127, .slice Ao128 t106.length co128], .string a1] rfl (pY38) ?_; (with_reducible refine (spec_ShareWaits.calls k _ _ t103 _ _ t106 a1 t109 _ ?side1 ?side2 ?side3 ?side4 A11.out).mono ?_); (case side1 => exact pC (Kd.R_reads' HO105.out).2.2); (case side2 => exact (Kd.R_reads' HO105.out).2.1); (case side3 => exact pC (Kd.S_reads' HO108.out).2.2); (case side4 => exact (Kd.S_reads' HO108.out).2.1); rintro e w129 ⟨v110, rfl, ho0, hb⟩; refine ⟨_, rfl, ?_⟩; have n0_ := Aside0.mk (Kd.R_elder' (pY44) (Kd.R_base ho0) hb); have n1_ := Aside0.mk (Kd.S_elder' (pY45) (Kd.R_base ho0) hb); have n2_ := Aside0.mk (Kd.R_lower (Kd.R_new' ho0 (Kd.R_lt (pY44))) (below_size (pY37))); have n3_ := Aside0.mk (blk_below (g := gb101) (o := .cells #[.slice A0_0 l0_0.length c0_0, .slice A0_1 l0_1.length c0_1] 26 (0, 0)) (pY40) hb); have n4_ := Aside0.mk (below_step (pY37) hb); clear HO105; clear HO108; clear BK101; clear HB; have HO105 := n0_; have HO108 := n1_; have HO111 := n2_; have BK101 := n3_; have HB := n4_; clear n0_ n1_ n2_ n3_ n4_; (try clear hb); (try clear hb2); (try clear hk); (try clear hi); (try clear ho0); have hcz130_0 : w129.cell? ⟨gb101, 0, none⟩ = some (.slice A0_0 l0_0.length c0_0) := (blk_cell BK101.out 0).trans rfl; have hcz130_1 : w129.cell? ⟨gb101, 1, none⟩ = some (.slice A0_1 l0_1.length c0_1) := (blk_cell BK101.out 1).trans rfl; have hfz130_0 := blk_frozen BK101.out 0; have hfz130_1 := blk_frozen BK101.out 1) | ((with_reducible refine gate_callee (f := 23) rfl ?_); refine goesL_ (some 26) rfl rfl Try.func23 (by kernel_rfl) rfl #[.agg #[.slice A0_0 l0_0.length c0_0, .slice A0_1 l0_1.length c0_1]] rfl (pY38) ?_; (with_reducible refine (laws_toShareBook.calls k _ _ l0_0 _ _ l0_1 t112 t115 _ ?side1 ?side2 ?side3 ?side4 A12.out).mono ?_); (case side1 => exact pC (Kd.C_below HR0_0.out HB.out)); (case side2 => exact HC0_0.out); (case side3 => exact pC (Kd.C_below HR0_1.out HB.out)); (case side4 => exact HC0_1.out); rintro e w131 ⟨v113, v116, rfl, ho0, ho1, hb⟩; refine ⟨_, rfl, ?_⟩; have n0_ := Aside0.mk (Kd.R_elder' (pY44) (Kd.R_base ho0) hb); have n1_ := Aside0.mk (Kd.S_mono (Kd.S_told (Kd.S_told (Kd.S_old (pY45) hb) (Kd.R_base ho0)) (Kd.S_base ho1)) (fun _ h_ => h_.1)); have n2_ := Aside0.mk (Kd.R_elder' (pY46) (Kd.R_base ho0) hb); have n3_ := Aside0.mk (Kd.R_lower (Kd.R_new' (Kd.R_new' ho0 (Kd.R_lt (pY44))) (Kd.R_lt (pY46))) (below_size (pY37))); have n4_ := Aside0.mk (Kd.S_lower (Kd.S_new' (Kd.S_new' (Kd.S_new' ho1 (Kd.R_lt (pY44))) (Kd.S_lt (pY45))) (Kd.R_lt (pY46))) (below_size (pY37))); have n5_ := Aside0.mk (blk_below (g := gb101) (o := .cells #[.slice A0_0 l0_0.length c0_0, .slice A0_1 l0_1.length c0_1] 26 (0, 0)) (pY40) hb); have n6_ := Aside0.mk (below_step (pY37) hb); clear HO105; clear HO108; clear HO111; clear BK101; clear HB; have HO105 := n0_; have HO108 := n1_; have HO111 := n2_; have HO114 := n3_; have HO117 := n4_; have BK101 := n5_; have HB := n6_; clear n0_ n1_ n2_ n3_ n4_ n5_ n6_; (try clear hb); (try clear hb2); (try clear hk); (try clear hi); (try clear ho0); (try clear ho1)) | ((with_reducible refine gate_dst (N := 7) rfl ?_); refine box_event ?hg (N := 7) ?hd (cs := #[.slice none 0 0, .slice none 0 0]) (t := 31) ?hr ?_; (case hd => rfl); (case hg => rfl); (case hr => first | (go_simp; done) | (go_simp; rfl)); intro gb118 hg w132 hbox hb; have n0_ := Aside0.mk (Kd.R_below (pY44) hb); have n1_ := Aside0.mk (Kd.S_below (pY45) hb); have n2_ := Aside0.mk (Kd.R_below (pY46) hb); have n3_ := Aside0.mk (Kd.R_below (pY47) hb); have n4_ := Aside0.mk (Kd.S_below (pY48) hb); have n5_ := Aside0.mk (blk_below (g := gb101) (o := .cells #[.slice A0_0 l0_0.length c0_0, .slice A0_1 l0_1.length c0_1] 26 (0, 0)) (pY40) hb); have n6_ := Aside0.mk (below_step (pY37) hb); have n7_ := Aside0.mk (hbox); have n8_ := Aside0.mk ((pY27 : w.heap.size ≤ gb118)); have n9_ := Aside0.mk ((pY27 : w.heap.size ≤ gb118)); have n10_ := Aside0.mk ((pY19 : gb101 ≠ gb118)); have n11_ := Aside0.mk ((pY20 : gb118 ≠ gb101)); clear HO105; clear HO108; clear HO111; clear HO114; clear HO117; clear BK101; clear HB; have HO105 := n0_; have HO108 := n1_; have HO111 := n2_; have HO114 := n3_; have HO117 := n4_; have BK101 := n5_; have HB := n6_; have BK118 := n7_; have GW118 := n8_; have GE118 := n9_; have NB101_118 := n10_; have NB118_101 := n11_; clear n0_ n1_ n2_ n3_ n4_ n5_ n6_ n7_ n8_ n9_ n10_ n11_; clear hb hbox hg; obtain ⟨Ao133, co133, eo133⟩ := Kd.R_slice HO114.out; subst eo133; have hnb134 := NB118_101.out; have hnc134 := NB101_118.out; have hcz135_0 : w132.cell? ⟨gb118, 0, none⟩ = some (.slice none 0 0) := (blk_cell BK118.out 0).trans rfl; have hcz135_1 : w132.cell? ⟨gb118, 1, none⟩ = some (.slice none 0 0) := (blk_cell BK118.out 1).trans rfl; have hfz135_0 := blk_frozen BK118.out 0; have hfz135_1 := blk_frozen BK118.out 1; obtain ⟨Ao136, co136, eo136⟩ := Kd.S_slice HO117.out; subst eo136) | ((with_reducible refine gate_callee (f := 38) rfl ?_); refine goesL_ (some 29) rfl rfl Try.func38 (by kernel_rfl) rfl #[.agg #[.slice Ao133 t112.length co133, .slice Ao136 t115.length co136], .string a1] rfl (pY38) ?_; (with_reducible refine (impl_ShareWaits.calls k _ _ t112 _ _ t115 a1 t119 _ ?side1 ?side2 ?side3 ?side4 A13.out).mono ?_); (case side1 => refine (Kd.R_reads' (e := 9) (base := w.heap.size) (ok := fun k_ => ((True ∧ some k_ ≠ (.slice Ao127 t103.length co127 : Value).ownBlock) ∧ some k_ ≠ (v110 : Value).ownBlock)) (n := t112.length) (c := co133) ?_).2.2; exact (pY7)); (case side2 => exact (Kd.R_reads' HO114.out).2.1); (case side3 => refine (Kd.S_reads' (e := 56) (base := w.heap.size) (ok := fun k_ => (((some k_ ≠ (.slice Ao133 t112.length co133 : Value).ownBlock ∧ some k_ ≠ (.slice Ao127 t103.length co127 : Value).ownBlock) ∧ some k_ ≠ (.slice Ao128 t106.length co128 : Value).ownBlock) ∧ some k_ ≠ (v110 : Value).ownBlock)) (n := t115.length) (c := co136) ?_).2.2; exact (by (with_reducible repeat (first | apply Kd.S_alloc | apply Kd.S_drewN | apply Kd.S_drew)); exact (Kd.S_mono (Kd.S_far (p := ⟨gb118, 1, none⟩) (Kd.S_far (p := ⟨gb118, 0, none⟩) (Kd.S_types HO117.out BK118.out (by decide)) (fun _ hk => hk.2) (.slice Ao133 t112.length co133)) (fun _ hk => hk.2) (.slice Ao136 t115.length co136)) (fun _ h_ => h_.1)))); (case side4 => exact (Kd.S_reads' HO117.out).2.1); rintro e w137 ⟨v120, rfl, ho0, hb⟩; refine ⟨_, rfl, ?_⟩; have n0_ := Aside0.mk (Kd.R_elder' (by (with_reducible repeat (first | apply Kd.R_alloc | apply Kd.R_drewN | apply Kd.R_drew)); exact (Kd.R_mono (Kd.R_far (p := ⟨gb118, 1, none⟩) (Kd.R_far (p := ⟨gb118, 0, none⟩) (Kd.R_types HO105.out BK118.out (by decide)) (fun _ hk => hk.2) (.slice Ao133 t112.length co133)) (fun _ hk => hk.2) (.slice Ao136 t115.length co136)) (fun _ h_ => h_.1))) (Kd.R_base ho0) hb); have n1_ := Aside0.mk (Kd.S_elder' (by (with_reducible repeat (first | apply Kd.S_alloc | apply Kd.S_drewN | apply Kd.S_drew)); exact (Kd.S_mono (Kd.S_far (p := ⟨gb118, 1, none⟩) (Kd.S_far (p := ⟨gb118, 0, none⟩) (Kd.S_types HO108.out BK118.out (by decide)) (fun _ hk => hk.2) (.slice Ao133 t112.length co133)) (fun _ hk => hk.2) (.slice Ao136 t115.length co136)) (fun _ h_ => h_.1))) (Kd.R_base ho0) hb); have n2_ := Aside0.mk (Kd.R_elder' (by (with_reducible repeat (first | apply Kd.R_alloc | apply Kd.R_drewN | apply Kd.R_drew)); exact (Kd.R_mono (Kd.R_far (p := ⟨gb118, 1, none⟩) (Kd.R_far (p := ⟨gb118, 0, none⟩) (Kd.R_types HO111.out BK118.out (by decide)) (fun _ hk => hk.2) (.slice Ao133 t112.length co133)) (fun _ hk => hk.2) (.slice Ao136 t115.length co136)) (fun _ h_ => h_.1))) (Kd.R_base ho0) hb); have n3_ := Aside0.mk (Kd.R_elder' (pY7) (Kd.R_base ho0) hb); have n4_ := Aside0.mk (Kd.S_elder' (by (with_reducible repeat (first | apply Kd.S_alloc | apply Kd.S_drewN | apply Kd.S_drew)); exact (Kd.S_mono (Kd.S_far (p := ⟨gb118, 1, none⟩) (Kd.S_far (p := ⟨gb118, 0, none⟩) (Kd.S_types HO117.out BK118.out (by decide)) (fun _ hk => hk.2) (.slice Ao133 t112.length co133)) (fun _ hk => hk.2) (.slice Ao136 t115.length co136)) (fun _ h_ => h_.1))) (Kd.R_base ho0) hb); have n5_ := Aside0.mk (Kd.R_lower (Kd.R_new' (Kd.R_new' (Kd.R_new' ho0 (Kd.R_lt (by (with_reducible repeat (first | apply Kd.R_alloc | apply Kd.R_drewN | apply Kd.R_drew)); exact (Kd.R_mono (Kd.R_far (p := ⟨gb118, 1, none⟩) (Kd.R_far (p := ⟨gb118, 0, none⟩) (Kd.R_types HO105.out BK118.out (by decide)) (fun _ hk => hk.2) (.slice Ao133 t112.length co133)) (fun _ hk => hk.2) (.slice Ao136 t115.length co136)) (fun _ h_ => h_.1))))) (Kd.R_lt (by (with_reducible repeat (first | apply Kd.R_alloc | apply Kd.R_drewN | apply Kd.R_drew)); exact (Kd.R_mono (Kd.R_far (p := ⟨gb118, 1, none⟩) (Kd.R_far (p := ⟨gb118, 0, none⟩) (Kd.R_types HO111.out BK118.out (by decide)) (fun _ hk => hk.2) (.slice Ao133 t112.length co133)) (fun _ hk => hk.2) (.slice Ao136 t115.length co136)) (fun _ h_ => h_.1))))) (Kd.R_lt (pY7))) (below_size (pY34))); have n6_ := Aside0.mk (blk_below (g := gb101) (o := .cells #[.slice A0_0 l0_0.length c0_0, .slice A0_1 l0_1.length c0_1] 26 (0, 0)) (pY5) hb); have n7_ := Aside0.mk (blk_below (g := gb118) (o := .cells #[.slice Ao133 t112.length co133, .slice Ao136 t115.length co136] 31 (0, 0)) (by (with_reducible repeat (first | refine blk_drewN ?_ _ | refine blk_drew ?_ | refine blk_alloc ?_ _)); refine blk_put (cs := #[.slice Ao133 t112.length co133, .slice none 0 0]) ?_ 1 _ rfl; (with_reducible repeat (first | refine blk_drewN ?_ _ | refine blk_drew ?_ | refine blk_alloc ?_ _)); refine blk_put (cs := #[.slice none 0 0, .slice none 0 0]) ?_ 0 _ rfl; (with_reducible repeat (first | refine blk_drewN ?_ _ | refine blk_drew ?_ | refine blk_alloc ?_ _)); exact BK118.out) hb); have n8_ := Aside0.mk (below_step (pY34) hb); clear HO105; clear HO108; clear HO111; clear HO114; clear HO117; clear BK101; clear BK118; clear HB; have HO105 := n0_; have HO108 := n1_; have HO111 := n2_; have HO114 := n3_; have HO117 := n4_; have HO121 := n5_; have BK101 := n6_; have BK118 := n7_; have HB := n8_; clear n0_ n1_ n2_ n3_ n4_ n5_ n6_ n7_ n8_; (try clear hb); (try clear hb2); (try clear hk); (try clear hi); (try clear ho0); obtain ⟨Ao138, co138, eo138⟩ := Kd.R_slice HO121.out; subst eo138; obtain ⟨Ao139, co139, eo139⟩ := Kd.R_slice HO111.out; subst eo139) | ((with_reducible refine gate_callee (f := 34) rfl ?_); refine goesL_ (some 32) rfl rfl Try.func34 (by kernel_rfl) rfl #[.slice Ao138 t119.length co138, .slice Ao139 t109.length co139] rfl (pY38) ?_; (with_reducible refine (laws_eqStringS.calls k _ _ t119 _ _ t109 false _ ?side1 ?side2 ?side3 ?side4 A14.out).mono ?_); (case side1 => exact pC (Kd.R_reads' HO121.out).2.2); (case side2 => exact (Kd.R_reads' HO121.out).2.1); (case side3 => exact pC (Kd.R_reads' HO111.out).2.2); (case side4 => exact (Kd.R_reads' HO111.out).2.1); rintro e w' ⟨rfl, ⟨nd, rfl⟩⟩; refine ⟨_, rfl, ?_⟩))
    go_ret
    exact ⟨by first | rfl | (simp [errW_none, errW_some] <;> rfl) | (simp [*, errW_none, errW_some] <;> rfl), pY34⟩
end Go.Proofs.Ytaofjgnhapnndaa.Q
namespace Go.Proofs.Ytaofjgnhapnndaa.Q
open Go.RowKit Go.Proofs.YtaofjgnhapnndaaW.PrintWords Go.Proofs.YtaofjgnhapnndaaW.PrintLast Go.Proofs.YtaofjgnhapnndaaW.PrintMore
set_option linter.unusedVariables false
set_option linter.unusedSimpArgs false
def atI (bs : List IB) (n : ByteArray) : Int := idxI (fun s => s.toList == n.toList) bs 0
theorem atI_lt {bs : List IB} {n : ByteArray} (h : ¬ atI bs n < 0) : ∃ a : Nat, atI bs n = (a : Int) ∧ a < bs.length ∧ (gB bs a).f0.toList = n.toList := by
  unfold atI idxI at h ⊢
  cases hf : findR (fun i => (gB bs i).f0.toList == n.toList) bs.length 0 with
  | none => rw [hf] at h; simp at h
  | some a =>
    obtain ⟨_, h2, h3⟩ := findR_lt hf
    exact ⟨a, rfl, h2, beq_iff_eq.mp h3⟩
theorem spec_l1At_ev (ts : List ByteArray) (bs : List IB) (n : ByteArray) (hl : bs.length ≤ 9223372036854775807) : Ev (fun k => spec_l1At.f k ts bs n) (atI bs n) := by
  unfold spec_l1At.f atI
  refine Ev.loop (f := fun k i => spec_l1At.l0 k n (i : Int) ts bs) (val := fun i => idxI (fun s => s.toList == n.toList) bs i) bs.length ?_ ?_ 0 (by omega)
  · simp only [idxI_end]
    exact Ev.step (fun k => spec_l1At.l0.eq_2 n _ ts bs k) (Ev.neg (by omega) (Ev.ret rfl))
  · intro i hi H
    simp only [idxI_step (fun s => s.toList == n.toList) hi]
    refine Ev.step (fun k => spec_l1At.l0.eq_2 n _ ts bs k) (Ev.pos (by omega) (Ev.pos (by omega) ?_))
    rw [rdB_cast, wrap_up hi hl]
    refine Ev.prop (fun h => Ev.ret (by rw [if_pos (beq_iff_eq.mpr h)])) (fun h => Ev.sub H (by rw [if_neg (fun e => h (beq_iff_eq.mp e))]))
end Go.Proofs.Ytaofjgnhapnndaa.Q
namespace Go.Proofs.Ytaofjgnhapnndaa.Q
open Go.RowKit Go.Proofs.YtaofjgnhapnndaaW.PrintWords Go.Proofs.YtaofjgnhapnndaaW.PrintLast Go.Proofs.YtaofjgnhapnndaaW.PrintMore
set_option linter.unusedVariables false
set_option linter.unusedSimpArgs false
def waitsL (bs : List IB) (a i : Nat) : List ByteArray := (filterR (fun q => !decide (q = a) && shareB (gB bs q).f1 (gB bs a).f2) bs.length i).map fun i => (gB bs i).f0
def waitsB (ts : List ByteArray) (bs : List IB) (n : ByteArray) : List ByteArray := if (bookB ts bs && !decide (atI bs n < 0)) = true then waitsL bs (atI bs n).toNat 0 else []
theorem waitsL_step {bs : List IB} {a i : Nat} (hi : i < bs.length) : waitsL bs a i = if (!decide (i = a) && shareB (gB bs i).f1 (gB bs a).f2) = true then (gB bs i).f0 :: waitsL bs a (i + 1) else waitsL bs a (i + 1) := by
  unfold waitsL; rw [filterR_step _ hi]; cases (!decide (i = a) && shareB (gB bs i).f1 (gB bs a).f2) <;> rfl
theorem waitsL_end (bs : List IB) (a : Nat) : waitsL bs a bs.length = [] := by unfold waitsL; rw [filterR_end]; rfl
theorem spec_ShareWaits_ev (ts : List ByteArray) (bs : List IB) (n : ByteArray) (ht : ts.length ≤ 9223372036854775807) (hl : bs.length ≤ 9223372036854775807) (hb : Bok bs) : Ev (fun k => spec_ShareWaits.f k ts bs n) (waitsB ts bs n) := by
  unfold spec_ShareWaits.f
  refine Ev.bind (spec_l1At_ev ts bs n hl) ?_
  by_cases hneg : atI bs n < 0
  · have e : waitsB ts bs n = [] := by unfold waitsB; simp [hneg]
    rw [e]
    by_cases h0 : 0 < bs.length
    · refine Ev.step (fun k => spec_ShareWaits.l0.eq_2 _ _ _ ts bs k) (Ev.pos (by omega) (Ev.neg (by omega) ?_))
      exact Ev.step (fun k => spec_ShareWaits.j1.eq_2 _ _ _ _ ts bs k) (Ev.neg (by simp) (Ev.ret rfl))
    · refine Ev.step (fun k => spec_ShareWaits.l0.eq_2 _ _ _ ts bs k) (Ev.neg (by omega) ?_)
      exact Ev.step (fun k => spec_ShareWaits.j1.eq_2 _ _ _ _ ts bs k) (Ev.neg (by simp) (Ev.ret rfl))
  · obtain ⟨a, ha, hlt, _⟩ := atI_lt hneg
    have b0 := hb.at_ hlt
    have go : ∀ (d i : Nat) (x : List ByteArray), bs.length - i = d → i ≤ bs.length → x.length ≤ i → Ev (fun k => spec_ShareWaits.l0 k x (a : Int) (i : Int) ts bs) (x ++ if bookB ts bs = true then waitsL bs a i else []) := by
      intro d
      induction d with
      | zero =>
        intro i x hd hi hx
        have e : i = bs.length := by omega
        refine Ev.step (fun k => spec_ShareWaits.l0.eq_2 x _ _ ts bs k) (Ev.neg (by omega) ?_)
        refine Ev.step (fun k => spec_ShareWaits.j1.eq_2 x _ _ _ ts bs k) (Ev.neg (by simp) (Ev.ret ?_))
        subst e
        rw [waitsL_end, ite_self, List.append_nil]
      | succ d ih =>
        intro i x hd hi hx
        have hli : i < bs.length := by omega
        refine Ev.step (fun k => spec_ShareWaits.l0.eq_2 x _ _ ts bs k) (Ev.pos (by omega) (Ev.pos (by omega) (Ev.bind (spec_ShareBookOk_ev ts bs ht hl hb) ?_)))
        refine Ev.step (fun k => spec_ShareWaits.j1.eq_2 x _ _ _ ts bs k) ?_
        refine Ev.test _ (fun h => ?_) (fun h => Ev.ret (by simp [h]))
        have h5 := book_five h
        rw [rdB_cast, rdB_cast, wrap_up hli hl, if_pos h, waitsL_step hli]
        refine Ev.prop (fun h2 => ?_) (fun h2 => Ev.pos (by omega) (Ev.pos (by omega) (Ev.pos (by omega) (Ev.pos (by omega) (Ev.bind (spec_l1Share_ev _ _ (hb.at_ hli).1 b0.2) ?_)))))
        · refine Ev.sub (ih (i + 1) x (by omega) (by omega) (by omega)) ?_
          rw [if_pos h, if_neg (by simp [show i = a by omega])]
        · have hne : decide (i = a) = false := decide_eq_false (by omega)
          refine Ev.test _ (fun h3 => Ev.pos (by omega) ?_) (fun h3 => ?_)
          · refine Ev.sub (ih (i + 1) (x ++ [(gB bs i).f0]) (by omega) (by omega) (by simp; omega)) ?_
            rw [if_pos h, if_pos (by rw [hne, h3]; rfl), List.append_assoc]; rfl
          · refine Ev.sub (ih (i + 1) x (by omega) (by omega) (by omega)) ?_
            rw [if_pos h, if_neg (by simp [h3])]
    rw [ha]
    refine Ev.sub (go bs.length 0 [] (by omega) (by omega) (by simp)) ?_
    unfold waitsB
    rw [ha, show decide ((a : Int) < 0) = false from decide_eq_false (by omega)]
    simp
theorem impl_ShareWaits_ev (ts : List ByteArray) (bs : List IB) (n : ByteArray) (ht : ts.length ≤ 9223372036854775807) (hl : bs.length ≤ 9223372036854775807) (hb : Bok bs) : Ev (fun k => impl_ShareWaits.f k ts bs n) (waitsB ts bs n) := by
  unfold impl_ShareWaits.f
  simp only [impl_ShareBook_at.f, Option.bind_some]
  refine Ev.bind (impl_ShareBookOk_ev ts bs ht hl hb) (Ev.test _ (fun h => ?_) (fun h => Ev.step (fun k => impl_ShareWaits.j0.eq_2 _ _ ts bs k) (Ev.pos rfl (Ev.ret (by simp [waitsB, h])))))
  have h5 := book_five h
  refine Ev.step (fun k => impl_ShareWaits.j0.eq_2 _ _ ts bs k) ?_
  change Ev (fun k => if decide (atI bs n < 0) = true then _ else impl_ShareWaits.l0 k (atI bs n) _ _ _ _ _ _) _
  by_cases hneg : atI bs n < 0
  · exact Ev.pos (decide_eq_true hneg) (Ev.ret (by simp [waitsB, hneg]))
  · refine Ev.neg (by simpa using hneg) ?_
    obtain ⟨a, ha, hlt, _⟩ := atI_lt hneg
    have go : ∀ (d i : Nat) (x : List ByteArray), bs.length - i = d → i ≤ bs.length → x.length ≤ i → Ev (fun k => impl_ShareWaits.l0 k (a : Int) x bs (bs.length : Int) (i : Int) ts bs) (x ++ waitsL bs a i) := by
      intro d
      induction d with
      | zero =>
        intro i x hd hi hx
        have e : i = bs.length := by omega
        refine Ev.step (fun k => impl_ShareWaits.l0.eq_2 _ x bs _ _ ts bs k) (Ev.neg (by omega) (Ev.ret ?_))
        subst e
        rw [waitsL_end, List.append_nil]
      | succ d ih =>
        intro i x hd hi hx
        have hli : i < bs.length := by omega
        refine Ev.step (fun k => impl_ShareWaits.l0.eq_2 _ x bs _ _ ts bs k) (Ev.pos (by omega) (Ev.pos (by omega) (Ev.pos (by omega) ?_)))
        rw [rdB_cast, rdB_cast, wrap_up hli hl, waitsL_step hli]
        refine Ev.prop (fun h2 => ?_) (fun h2 => Ev.pos (by omega) (Ev.pos (by omega) ?_))
        · refine Ev.sub (ih (i + 1) x (by omega) (by omega) (by omega)) ?_
          rw [if_neg (by simp [show i = a by omega])]
        · have hne : decide (i = a) = false := decide_eq_false (by omega)
          simp only [impl_common.f, Option.bind_some]
          refine Ev.test _ (fun h3 => Ev.pos (by omega) ?_) (fun h3 => ?_)
          · refine Ev.sub (ih (i + 1) (x ++ [(gB bs i).f0]) (by omega) (by omega) (by simp; omega)) ?_
            rw [if_pos (by rw [hne, show shareB (gB bs i).f1 (gB bs a).f2 = true from h3]; rfl), List.append_assoc]; rfl
          · refine Ev.sub (ih (i + 1) x (by omega) (by omega) (by omega)) ?_
            rw [if_neg (by simp [show shareB (gB bs i).f1 (gB bs a).f2 = false from h3])]
    rw [ha]
    refine Ev.sub (go bs.length 0 [] (by omega) (by omega) (by simp)) ?_
    unfold waitsB
    rw [ha, h, show decide ((a : Int) < 0) = false from decide_eq_false (by omega)]
    simp
end Go.Proofs.Ytaofjgnhapnndaa.Q
namespace Go.Proofs.Ytaofjgnhapnndaa.Q
open Go.RowKit Go.Proofs.YtaofjgnhapnndaaW.PrintWords Go.Proofs.YtaofjgnhapnndaaW.PrintLast Go.Proofs.YtaofjgnhapnndaaW.PrintMore
set_option linter.unusedVariables false
set_option linter.unusedSimpArgs false
theorem waitsB_len (ts : List ByteArray) (bs : List IB) (n : ByteArray) : (waitsB ts bs n).length ≤ bs.length := by
  unfold waitsB
  split
  · unfold waitsL; rw [List.length_map]; exact filterR_len _ _ _
  · simp
end Go.Proofs.Ytaofjgnhapnndaa.Q
namespace Go.Proofs.Ytaofjgnhapnndaa.Q
open Go.RowKit Go.Proofs.YtaofjgnhapnndaaW.PrintWords Go.Proofs.YtaofjgnhapnndaaW.PrintLast Go.Proofs.YtaofjgnhapnndaaW.PrintMore
set_option linter.unusedVariables false
set_option linter.unusedSimpArgs false
theorem FnExactShareWaits_pure (ts : List ByteArray) (bs : List LB) (n : ByteArray) (hi : Inok ts bs) (hs : n.size ≤ 140737488351232) : ∃ k, laws_FnExactShareWaits.f k ts bs n = some true := by
  refine Ev.rounds (g := fun k => laws_FnExactShareWaits.f k ts bs n) ?_
  unfold laws_FnExactShareWaits.f
  refine Ev.prop (fun _ => Ev.ret rfl) (fun _ => ?_)
  refine counted hi fun a ha h0 h => ?_
  have hl : (waitsB ts (bs.map toB) n).length ≤ 1048576 := Nat.le_trans (waitsB_len _ _ _) (by rw [List.length_map]; exact h.lb)
  have hq : Ev (fun k => laws_eqStringS.f k (waitsB ts (bs.map toB) n) (waitsB ts (bs.map toB) n)) true := eqStringS_ev _ (by omega)
  have hg := impl_ShareWaits_ev ts (bs.map toB) n h.ts' h.bs' h.bok'
  refine Ev.bind h.to_ev (Ev.bind (spec_ShareWaits_ev _ _ n h.ts' h.bs' h.bok') (Ev.bind h.to_ev (Ev.bind hg (Ev.bind hq (Ev.pos rfl ?_)))))
  refine unturned h (Ev.bind (markBook_ev ts bs 1 (by omega) (by omega) (wBook_of ha h0)) (Ev.neg (by omega) (Ev.bind hq ?_)))
  refine Ev.step (fun k => laws_FnExactShareWaits.j0.eq_2 _ _ _ _ _ _ k) (Ev.neg (by simp) ?_)
  exact marked_held hl (Ev.bind h.to_ev (Ev.bind hg (Ev.bind hq (Ev.pos rfl (held_still hl)))))
end Go.Proofs.Ytaofjgnhapnndaa.Q
