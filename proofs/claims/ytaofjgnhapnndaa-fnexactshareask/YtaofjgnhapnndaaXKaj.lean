/- Texts that the row needs: words on memory and rows, the contracts of the functions it reaches, and the plain lemmas on what they compute. -/
import Derived.Below
import Derived.Deep.Draws
import Derived.Deep.AppendLies
import Derived.Maps.AppendAt
import Derived.OwnWalk
import Derived.Laws.BytesArg
import Derived.Laws.MakeOwn
import Derived.Laws.OwnMore
import Derived.Deep.OwnRows
import Derived.Tactics
import Derived.Lib.ConvBytes
import Derived.Laws.Slices
import Derived.WalkKit
import Derived.KernelRfl
import Derived.RowKit3
import Derived.Deep.LoopGhost
import Derived.Deep.QuietTactic
import Derived.BigQuiet
import Derived.WideLaws
import Derived.Deep.DeepCutAuto
import Derived.Deep.CutBlock
import Derived.Deep.RegionHeld3
import Derived.Laws.Rows
import Derived.Lib.AppendStr
import Derived.ArgAppend
import Derived.Laws.IdiomCopy
import Derived.RowKit
import Derived.OrdersHeld
import Derived.Laws.BitsLemmas
import Derived.Laws.StructEq
import Derived.Test.YtaofjgnhapnndaaProg
import Derived.WalkLawsBesides
import Derived.Lib.SliceRun
import Derived.Test.YtaofjgnhapnndaaRows
import Derived.ProofKit
import Derived.Shelf.Slices.Cells
import Derived.Shelf.Bodies
import Derived.Ground.NamesProg
import Derived.Shelf.Sort.Plain
import Derived.Shelf.Slices.In.SortNone2
import Derived.Shelf.Abstract
import Derived.Test.YtaofjgnhapnndaaXKaa
import Derived.Test.YtaofjgnhapnndaaXKab
import Derived.Test.YtaofjgnhapnndaaXKac
import Derived.Test.YtaofjgnhapnndaaXKad
import Derived.Test.YtaofjgnhapnndaaXKae
import Derived.Test.YtaofjgnhapnndaaXKaf
import Derived.Test.YtaofjgnhapnndaaXKag
import Derived.Test.YtaofjgnhapnndaaXKah
import Derived.Test.YtaofjgnhapnndaaXKai
open Go.Proofs.YtaofjgnhapnndaaFK
namespace Go.Proofs.Ytaofjgnhapnndaa.Q
open Go.RowKit Go.Proofs.YtaofjgnhapnndaaW.PrintWords Go.Proofs.YtaofjgnhapnndaaW.PrintLast Go.Proofs.YtaofjgnhapnndaaW.PrintMore
set_option linter.unusedVariables false
set_option linter.unusedSimpArgs false
theorem C_none {α : Type} {d : Kd α} {w : World} {l : List α} (h : d.C w none l.length l) : l = [] := by
 cases l with
 | nil => rfl
 | cons a l =>
  obtain ⟨ad, he, _⟩ := h.2.2 (by simp)
  cases he
def slices_Clone_string_string.f (l0 : List ByteArray) : Option (List ByteArray) := if l0.length < 8796093022208 then some l0 else none
set_option maxHeartbeats 2000000 in
set_option maxRecDepth 100000 in
theorem slices_Clone_string_string.calls (A0 : Option Addr) (c0 : Nat) (l0 : List ByteArray) (r : List ByteArray) (w : World) (hr0 : Kd.C Kd.string w A0 l0.length l0) (hc0 : l0.length ≤ c0) (h : slices_Clone_string_string.f l0 = some r) :
  Calls Try.prog 94 #[.slice A0 l0.length c0] w fun e w' => ∃ v0_ : Value, e = .returned (v0_) ∧ Kd.R Kd.string 9 w' w.heap.size (fun _ => True) v0_ r ∧ Below w.heap.size w w' := by
 unfold slices_Clone_string_string.f at h
 by_cases c2 : l0.length < 8796093022208
 ·rw [if_pos c2] at h
  obtain rfl := Option.some.inj h
  clear h
  have LM := am c2
  clear c2
  have hnil := fun (W : World) (a : Option Addr) (n c : Nat) => Lib.run_eql_slice_nil (P := Try.prog) W 23 9 a n c 0 0 Try.underlying23
  cases A0 with
  | none =>
   obtain rfl := C_none hr0
   clear hr0 hc0
   go_enter Try.func94, Try.ntmps94
   go_wp2
   go_ret
   exact ⟨_, rfl, Kd.R_nil _ _ _ _ _, Below.refl _ _⟩
  | some a0 =>
   have HR0 := am hr0
   have HC0 := am hc0
   clear hr0 hc0
   have HB := am (Below.refl w.heap.size w)
   go_enter Try.func94, Try.ntmps94
   go_wp2_with (first
    | ((with_reducible refine gate_dst (N := 5) rfl ?_); refine Kd.R_lit Kd.string _ 9 ?hg (N := 5) ?hd (xs := ([] : List ByteArray)) (inner := []) (ok := fun _ => True) (okp := fun _ => True) ?hr ?hp (fun _ hk => hk) trivial (Below.refl _ _) (Nat.le_refl _) (by simp) ?_; (case hd => rfl); (case hg => rfl); (case hr => first | (go_simp; done) | (go_simp; rfl)); (case hp => exact (Reps.none _ _)); intro v102 w3 ho4 hb hg_ hnew_; clear hg_ hnew_; have n0_ := am (Kd.R_lower ho4 (below_size (pY55))); have n1_ := bS pY55 hb; clear HB; have HO103 := n0_; have HB := n1_; clear n0_ n1_; clear hb ho4)
    | ((with_reducible refine gate_builtin (b := .append) (xs := #[.tmp 5, .tmp 6]) rfl ?_); at_builtin; refine Kd.R_append_rows Kd.string (w0 := w) w.heap.size rfl (.tmp 5) (.tmp 6) 23 9 (.string ⟨#[]⟩) 16 rfl Try.underlying23 info9 rfl (by decide) (by omega) v102 [] l0 _ _ _ (fun _ => True) (fun _ => False) rfl rfl ?aO ?aR (fun _ _ h => h) (fun _ h => h.elim) ?aF ?aB ?aS ?aL ?_; (case aR => repeat (first | exact (Kd.C_below HR0.1 HB.1) | (with_reducible refine Kd.C_alloc ?_ _) | (with_reducible refine Kd.C_drewN ?_ _) | (with_reducible refine Kd.C_drew ?_))); (case aB => exact (pY55)); (case aF => exact (fun _ _ => trivial)); (case aO => exact (rR HO103.1)); (case aS => exact (below_size (pY55))); (case aL => have := LM.out; simp; omega); intro v105 w5 ho hb hg hat; have n0_ := am (hb); have n1_ := am (ho); clear HB; clear HO103; have HB := n0_; have HO106 := n1_; clear n0_ n1_; clear ho hb hg hat))
   go_ret
   exact ⟨_, by first | rfl | (simp; done) | (simp [*]; done), rR HO106.1, pY55⟩
 ·rw [if_neg c2] at h
  exact absurd h (by simp)
end Go.Proofs.Ytaofjgnhapnndaa.Q
namespace Go.Proofs.Ytaofjgnhapnndaa.Q
open Go.RowKit Go.Proofs.YtaofjgnhapnndaaW.PrintWords Go.Proofs.YtaofjgnhapnndaaW.PrintLast Go.Proofs.YtaofjgnhapnndaaW.PrintMore
set_option linter.unusedVariables false
set_option linter.unusedSimpArgs false
def impl_copyBook.l0 : Nat → List (S56) → Int → Int → List ByteArray → List (S56) → Option (List ByteArray × (List (S56)))
 | 0, _, _, _, _, _ => none
 | k + 1, x11, x12, x13, x107000, x107001 => if x13 < x12 then (if 0 ≤ x13 then (if x13 < (x11.length : Int) then ((slices_Clone_string_string.f ((rd_T56 x11 x13).f1)).bind fun t109 => ((slices_Clone_string_string.f ((rd_T56 x11 x13).f2)).bind fun t112 => (if x107001.length < 2199023255552 then (impl_copyBook.l0 k x11 x12 (wrap64 (x13 + 1)) x107000 (x107001 ++ [(⟨(rd_T56 x11 x13).f0, t109, t112⟩ : S56)])) else (none)))) else (none)) else (none)) else (some (x107000, x107001))
def impl_copyBook.f (k : Nat) (l0_0 : List ByteArray) (l0_1 : List (S56)) : Option (List ByteArray × (List (S56))) := (slices_Clone_string_string.f l0_0).bind fun t103 => (impl_copyBook.l0 k l0_1 (l0_1.length : Int) 0 t103 ([] : List (S56)))
def impl_copyBook.T5 : Bool × List (List Nat × List Nat) := (true, [([], []), ([0], [0]), ([], []), ([2], [2]), ([], []), ([4], [4]), ([5], [5]), ([], []), ([7], [7]), ([8, 6], [8]), ([3, 6, 9], [3, 6, 9]), ([10], [10]), ([1, 11, 9], [1, 11]), ([0, 1, 2, 3, 4, 5, 6, 7, 8, 9, 10, 11, 12], []), ([13, 12, 12, 0, 1, 2, 3, 4, 5, 6, 7, 8, 9, 10, 11, 12], [12, 13])])
def impl_copyBook.B5 : List Nat := [0, 1, 0, 4, 0, 16, 48, 0, 128, 496, 1020, 2044, 4095, 8191, 16383]
theorem impl_copyBook.tab5 : rtab .any (opsOf Try.f90 5) = impl_copyBook.T5 := by kernel_rfl
theorem impl_copyBook.bits5 : waitsOk impl_copyBook.T5.2 impl_copyBook.B5 = true := by kernel_rfl
set_option maxHeartbeats 8000000 in
set_option maxRecDepth 100000 in
theorem impl_copyBook.calls (k : Nat) (A0_0 : Option Addr) (c0_0 : Nat) (l0_0 : List ByteArray) (A0_1 : Option Addr) (c0_1 : Nat) (l0_1 : List (S56)) (r1 : List ByteArray) (r2 : List (S56)) (w : World) (hr0_0 : Kd.C Kd.string w A0_0 l0_0.length l0_0) (hc0_0 : l0_0.length ≤ c0_0) (hr0_1 : Kd.C k56 w A0_1 l0_1.length l0_1) (hc0_1 : l0_1.length ≤ c0_1) (h : impl_copyBook.f k l0_0 l0_1 = some (r1, r2)) :
  Calls Try.prog 90 #[.agg #[.slice A0_0 l0_0.length c0_0, .slice A0_1 l0_1.length c0_1]] w fun e w' => ∃ v0_ v1_ : Value, e = .returned (.agg #[v0_, v1_]) ∧ Kd.R Kd.string 9 w' w.heap.size (fun _ => True) v0_ r1 ∧ Kd.S k56 56 w' w.heap.size (fun k_ => some k_ ≠ (v0_ : Value).ownBlock) v1_ r2 ∧ Below w.heap.size w w' := by
 have hu31 := Try.underlying31
 have hu56 := Try.underlying56
 have HR0_0 := am hr0_0
 have HC0_0 := am hc0_0
 clear hr0_0 hc0_0
 have HR0_1 := am hr0_1
 have HC0_1 := am hc0_1
 clear hr0_1 hc0_1
 have HB := am (Below.refl w.heap.size w)
 have H : ((slices_Clone_string_string.f l0_0).bind fun t103 => (impl_copyBook.l0 k l0_1 (l0_1.length : Int) 0 t103 ([] : List (S56)))) = some (r1, r2) := h
 clear h
 obtain ⟨t103, A2, H⟩ := bd H
 have H' := am H
 clear H
 go_enter Try.func90, Try.ntmps90
 go_wp2_with (first | (refine bX 1 #[.slice A0_0 l0_0.length c0_0, .slice A0_1 l0_1.length c0_1] 31 ?_; intro gb101 hg w3 hbox hb; have BK101 := am (hbox); have GW101 := am (pY52 : w.heap.size ≤ gb101); have GE101 := am (pY52 : w.heap.size ≤ gb101); replace HB := bS pY55 hb; clear hb hbox hg) | (refine bX 2 #[.slice none 0 0, .slice none 0 0] 31 ?_; intro gb102 hg w4 hbox hb; have BK102 := am (hbox); have GW102 := am (pY45 : w.heap.size ≤ gb102); have GE102 := am (pY45 : w.heap.size ≤ gb102); replace HB := bS pY53 hb; have NB101_102 := nL pY58 hg; have NB102_101 := nG pY58 hg; replace BK101 := bB pY58 hb; clear hb hbox hg; have hnb5 := NB101_102.1; have hnc5 := NB102_101.1; obtain ⟨hcz6_0, hcz6_1, hfz6_0, hfz6_1⟩ := cz2 BK101) | ((with_reducible refine gate_callee (f := 94) rfl ?_); refine goesL_ (some 8) rfl rfl Try.func94 (by kernel_rfl) rfl #[.slice A0_0 l0_0.length c0_0] rfl (pY54) ?_; (with_reducible refine (slices_Clone_string_string.calls _ _ l0_0 t103 _ ?side1 ?side2 A2.out).mono ?_); (case side1 => exact pC (Kd.C_below HR0_0.1 HB.1)); (case side2 => exact HC0_0.1); rintro e w7 ⟨v104, rfl, ho0, hb⟩; refine ⟨_, rfl, ?_⟩; have HO105 := am (Kd.R_lower ho0 (below_size (pY46))); replace BK101 := bB pY58 hb; replace BK102 := bB pY59 hb; replace HB := bS pY46 hb; (try clear hb); (try clear hb2); (try clear hk); (try clear hi); (try clear ho0); obtain ⟨Ao8, co8, eo8⟩ := Kd.R_slice HO105.1; subst eo8) | (refine bX 3 #[.slice none 0 0, .slice none 0 0] 31 ?_; intro gb106 hg w9 hbox hb; replace HO105 := am (Kd.R_below (rR HO105.1) hb); have BK106 := am (hbox); have GW106 := am (pY39 : w.heap.size ≤ gb106); have GE106 := am (pY39 : w.heap.size ≤ gb106); replace HB := bS pY46 hb; have NB101_106 := nL pY58 hg; have NB106_101 := nG pY58 hg; replace BK101 := bB pY58 hb; have NB102_106 := nL pY59 hg; have NB106_102 := nG pY59 hg; replace BK102 := bB pY59 hb; clear hb hbox hg; have hnb10 := NB106_101.1; have hnc10 := NB101_106.1; have hnb11 := NB106_102.1; have hnc11 := NB102_106.1; obtain ⟨hcz12_0, hcz12_1, hfz12_0, hfz12_1⟩ := cz2 BK106; obtain ⟨hcz13_0, hcz13_1, hfz13_0, hfz13_1⟩ := cz2 BK101))
 go_loopg [13] k (fun kq v13 w' => ∃ (x13_1 : Int) (x107001_1 : List (S56)) (u107001 : Value), v13 = .int .i64 x13_1 ∧ Aside0 (impl_copyBook.l0 kq l0_1 (l0_1.length : Int) x13_1 t103 x107001_1 = some (r1, r2)) ∧ Aside0 (kq ≤ k) ∧ Aside0 (Kd.R Kd.string 9 w' w.heap.size (fun _ => True) (.slice Ao8 t103.length co8) t103) ∧ Aside0 (Kd.S k56 56 w' w.heap.size (fun k_ => some k_ ≠ ((.slice Ao8 t103.length co8) : Value).ownBlock) u107001 x107001_1) ∧ Aside0 (w'.heap[gb101]? = some (.cells #[(.slice A0_0 l0_0.length c0_0), (.slice A0_1 l0_1.length c0_1)] 31 (0, 0))) ∧ Aside0 (w'.heap[gb102]? = some (.cells #[(.slice none 0 0), (.slice none 0 0)] 31 (0, 0))) ∧ Aside0 (w'.heap[gb106]? = some (.cells #[(.slice Ao8 t103.length co8), u107001] 31 (0, 0))) ∧ Aside0 (Below w.heap.size w w'))
 case atStart => exact ⟨(0), (([] : List (S56))), (.slice none 0 0), (pY83), H', ⟨Nat.le_refl _⟩, ⟨by refine rR ?_; exact Kd.R_mono (Kd.R_far (p := ⟨gb106, 1, none⟩) (Kd.R_far (p := ⟨gb106, 0, none⟩) (Kd.R_types HO105.1 BK106.1 (by decide)) (fun _ hk => hk.2) (.slice Ao8 t103.length co8)) (fun _ hk => hk.2) (.slice none 0 0)) (fun _ hk => trivial)⟩, ⟨by first | exact Kd.S_nil _ _ _ _ _ | exact Kd.N_nil _ _ _ _ _ | exact Kd.V_nil _ _ _ _ _ | exact Kd.Q_nil _ _ _ _ _ | exact Kd.R_nil _ _ _ _ _⟩, ⟨by (with_reducible repeat (first | refine blk_drewN ?_ _ | refine blk_drew ?_ | refine blk_alloc ?_ _)); refine blk_far ?_ NB101_106.1 _; (with_reducible repeat (first | refine blk_drewN ?_ _ | refine blk_drew ?_ | refine blk_alloc ?_ _)); refine blk_far ?_ NB101_106.1 _; (with_reducible repeat (first | refine blk_drewN ?_ _ | refine blk_drew ?_ | refine blk_alloc ?_ _)); exact BK101.1⟩, ⟨by (with_reducible repeat (first | refine blk_drewN ?_ _ | refine blk_drew ?_ | refine blk_alloc ?_ _)); refine blk_far ?_ NB102_106.1 _; (with_reducible repeat (first | refine blk_drewN ?_ _ | refine blk_drew ?_ | refine blk_alloc ?_ _)); refine blk_far ?_ NB102_106.1 _; (with_reducible repeat (first | refine blk_drewN ?_ _ | refine blk_drew ?_ | refine blk_alloc ?_ _)); exact BK102.1⟩, ⟨by (with_reducible repeat (first | refine blk_drewN ?_ _ | refine blk_drew ?_ | refine blk_alloc ?_ _)); refine blk_put (cs := #[.slice Ao8 t103.length co8, .slice none 0 0]) ?_ 1 _ rfl; (with_reducible repeat (first | refine blk_drewN ?_ _ | refine blk_drew ?_ | refine blk_alloc ?_ _)); refine blk_put (cs := #[.slice none 0 0, .slice none 0 0]) ?_ 0 _ rfl; (with_reducible repeat (first | refine blk_drewN ?_ _ | refine blk_drew ?_ | refine blk_alloc ?_ _)); exact BK106.1⟩, ⟨pY42⟩⟩
 case round =>
  clear H'
  try clear hcz12_0
  try clear hcz12_1
  try clear hcz13_0
  try clear hcz13_1
  try clear hcz6_0
  try clear hcz6_1
  try clear hfz12_0
  try clear hfz12_1
  try clear hfz13_0
  try clear hfz13_1
  try clear hfz6_0
  try clear hfz6_1
  obtain ⟨x13_1, x107001_1, u107001, rfl, HA, HK1, HO_107000, HO_107001, BK101, BK102, BK106, HB⟩ := hrel
  cases gk with
  | zero => exact absurd HA.out (by simp [impl_copyBook.l0])
  | succ k1 =>
   have H := HA.out
   clear HA
   simp only [impl_copyBook.l0] at H
   by_cases c14 : x13_1 < (l0_1.length : Int)
   ·rw [if_pos c14] at H
    have c14b0 : decide (x13_1 < (l0_1.length : Int)) = true := decide_eq_true c14
    clear c14
    by_cases c15 : 0 ≤ x13_1
    ·rw [if_pos c15] at H
     have c15b0 : decide (0 ≤ x13_1) = true := decide_eq_true c15
     clear c15
     by_cases c16 : x13_1 < (l0_1.length : Int)
     ·rw [if_pos c16] at H
      have c16b0 : decide (x13_1 < (l0_1.length : Int)) = true := decide_eq_true c16
      clear c16
      obtain ⟨t109, A17, H⟩ := bd H
      obtain ⟨t112, A18, H⟩ := bd H
      by_cases c19 : x107001_1.length < 2199023255552
      ·rw [if_pos c19] at H
       have LMc19 := am c19
       clear c19
       first | (replace H := bZ (x107001_1 ++ [(⟨(rd_T56 l0_1 x13_1).f0, t109, t112⟩ : S56)]) H; obtain ⟨y115, Ny115, H⟩ := H) | (obtain ⟨y115, Ny115⟩ := yv (x107001_1 ++ [(⟨(rd_T56 l0_1 x13_1).f0, t109, t112⟩ : S56)]); rw [← Ny115.1] at H)
       have H' := am H
       clear H
       have p107 : 0 ≤ (x13_1 : Int) := of_decide_eq_true (pY82)
       have q107 : x13_1 < (l0_1.length : Int) := of_decide_eq_true (pY82)
       obtain ⟨ad107, A107_1, c107_1, A107_2, c107_2, e107, hx107_0, hx107_1, hx107_2, hl107_1, hi107_1, hl107_2, hi107_2⟩ := at_T56 HR0_1.1 x13_1 p107 q107
       cases e107
       replace hx107_0 := hX HB hx107_0
       replace hx107_1 := hX HB hx107_1
       replace hx107_2 := hX HB hx107_2
       have HR107_1 := am hi107_1
       have HC107_1 := am hl107_1
       clear hi107_1 hl107_1
       have HR107_2 := am hi107_2
       have HC107_2 := am hl107_2
       clear hi107_2 hl107_2
       replace p107 := eq_true p107
       replace q107 := eq_true q107
       try go_wp2_with (first | (refine bX 5 #[.string (⟨#[]⟩ : ByteArray), .slice none 0 0, .slice none 0 0] 56 ?_; intro gb108 hg w20 hbox hb; replace HO_107000 := am (Kd.R_below (pY65) hb); replace HO_107001 := am (Kd.S_below (Kd.S_elderB (pY66) gb108 (Nat.le_of_eq hg.symm)) hb); have BK108 := am (hbox); have GW108 := am (by rw [hg]; exact (below_size (pY42)) : w.heap.size ≤ gb108); have GE108 := am (by rw [hg]; exact (below_size (pY42)) : w.heap.size ≤ gb108); replace HB := bS pY42 hb; have NB101_108 := nL pY58 hg; have NB108_101 := nG pY58 hg; replace BK101 := bB pY58 hb; have NB102_108 := nL pY59 hg; have NB108_102 := nG pY59 hg; replace BK102 := bB pY59 hb; have NB106_108 := nL pY60 hg; have NB108_106 := nG pY60 hg; replace BK106 := bB pY60 hb; clear hb hbox hg; have hnb21 := NB108_101.1; have hnc21 := NB101_108.1; have hnb22 := NB108_102.1; have hnc22 := NB102_108.1; have hnb23 := NB108_106.1; have hnc23 := NB106_108.1; obtain ⟨hcz24_0, hcz24_1, hcz24_2, hfz24_0, hfz24_1, hfz24_2⟩ := cz3 BK108))
       obtain ⟨w25, eW_⟩ : ∃ w_, w_ = (((w20.setCell ⟨gb108, 0, none⟩ (.string ((rd_T56 l0_1 x13_1).f0))).setCell ⟨gb108, 1, none⟩ (.slice A107_1 ((rd_T56 l0_1 x13_1).f1).length c107_1)).setCell ⟨gb108, 2, none⟩ (.slice A107_2 ((rd_T56 l0_1 x13_1).f2).length c107_2)) := ⟨_, rfl⟩
       rw [← eW_]
       replace HO_107000 : Aside0 (Kd.R Kd.string 9 w25 w.heap.size (fun _ => True) (.slice Ao8 t103.length co8) t103) := by rw [eW_]; exact ⟨by refine rR ?_; exact Kd.R_mono (Kd.R_far (p := ⟨gb108, 2, none⟩) (Kd.R_far (p := ⟨gb108, 1, none⟩) (Kd.R_far (p := ⟨gb108, 0, none⟩) (Kd.R_types HO_107000.1 BK108.1 (by decide)) (fun _ hk => hk.2) (.string ((rd_T56 l0_1 x13_1).f0))) (fun _ hk => hk.2) (.slice A107_1 ((rd_T56 l0_1 x13_1).f1).length c107_1)) (fun _ hk => hk.2) (.slice A107_2 ((rd_T56 l0_1 x13_1).f2).length c107_2)) (fun _ hk => trivial)⟩
       replace HO_107001 : Aside0 (Kd.S k56 56 w25 w.heap.size (fun k_ => some k_ ≠ (.slice Ao8 t103.length co8 : Value).ownBlock ∧ k_ ≠ gb108) u107001 x107001_1) := by rw [eW_]; exact ⟨by refine rS ?_; exact Kd.S_mono (Kd.S_far (p := ⟨gb108, 2, none⟩) (Kd.S_far (p := ⟨gb108, 1, none⟩) (Kd.S_far (p := ⟨gb108, 0, none⟩) (Kd.S_mono HO_107001.1 (fun k_ hk => (⟨hk, hk.2⟩ : _ ∧ k_ ≠ gb108))) (fun _ hk => hk.2) (.string ((rd_T56 l0_1 x13_1).f0))) (fun _ hk => hk.2) (.slice A107_1 ((rd_T56 l0_1 x13_1).f1).length c107_1)) (fun _ hk => hk.2) (.slice A107_2 ((rd_T56 l0_1 x13_1).f2).length c107_2)) (fun _ hk => ⟨hk.1.1, hk.1.2⟩)⟩
       replace BK101 := uF3 eW_ BK101 NB101_108
       replace BK102 := uF3 eW_ BK102 NB102_108
       replace BK106 := uF3 eW_ BK106 NB106_108
       replace BK108 := uP3 eW_ BK108
       replace HB := uC3 eW_ HB GE108
       clear eW_
       replace HO_107000 := am (Kd.R_drew HO_107000.1)
       replace HO_107001 := am (Kd.S_drew HO_107001.1)
       replace BK101 := am (blk_drew BK101.1)
       replace BK102 := am (blk_drew BK102.1)
       replace BK106 := am (blk_drew BK106.1)
       replace BK108 := am (blk_drew BK108.1)
       replace HB := am (below_drew1 HB.1)
       refine sT [14] 15 (uB2 BK106 (uA3 BK108)) (fun hHeld => ?_); refine with_tabW impl_copyBook.tab5 impl_copyBook.bits5 (fun HT_ HW_ => ?_)
       generalize w25.drew = w26 at HO_107000 HO_107001 BK101 BK102 BK106 BK108 HB hHeld ⊢
       refine pU 0 (some 17) ?_
       refine pU 2 (some 19) ?_
       refine pU 4 (some 21) ?_
       refine pU 7 (some 24) ?_
       refine tK5 1 (some 18) ?_
       refine tK5 3 (some 20) ?_
       refine tK5 5 (some 22) ?_
       refine tK5 8 (some 25) ?_
       refine oN 6 (some 23) fun K hK => ?_
       refine goes_ Try.func94 (by kernel_rfl) rfl #[.slice A107_1 ((rd_T56 l0_1 x13_1).f1).length c107_1] (by rfl) rfl rfl (pY54) ?_
       with_reducible refine (slices_Clone_string_string.calls _ _ ((rd_T56 l0_1 x13_1).f1) t109 _ ?side1 ?side2 A17.out).mono ?_
       (case side1 => exact pC (Kd.C_below HR107_1.1 HB.1))
       (case side2 => exact HC107_1.1)
       rintro e w27 ⟨v110, rfl, ho0, hb⟩
       refine ⟨_, rfl, ?_⟩
       replace HO_107001 := am (Kd.S_elder' (pY66) (Kd.R_base ho0) hb)
       have HO111 := am (Kd.R_lower (Kd.R_new' ho0 (Kd.R_lt (pY65))) (below_size (pY28)))
       replace HO_107000 := am (Kd.R_elder' (pY65) (Kd.R_base ho0) hb)
       replace BK101 := bB pY58 hb
       replace BK102 := bB pY59 hb
       replace BK106 := bB pY60 hb
       replace BK108 := bB pY63 hb
       replace HB := bS pY28 hb
       (try clear hb)
       (try clear hb2)
       (try clear hk)
       (try clear hi)
       (try clear ho0)
       refine hK.out _ _ (uB2 BK106 (uA3 BK108)).1 (fun hHeld => ?_)
       clear hK K
       refine nM ?_
       refine oN 9 (some 26) fun K hK => ?_
       refine goes_ Try.func94 (by kernel_rfl) rfl #[.slice A107_2 ((rd_T56 l0_1 x13_1).f2).length c107_2] (by rfl) rfl rfl (pY54) ?_
       with_reducible refine (slices_Clone_string_string.calls _ _ ((rd_T56 l0_1 x13_1).f2) t112 _ ?side1 ?side2 A18.out).mono ?_
       (case side1 => exact pC (Kd.C_below HR107_2.1 HB.1))
       (case side2 => exact HC107_2.1)
       rintro e w28 ⟨v113, rfl, ho0, hb⟩
       refine ⟨_, rfl, ?_⟩
       replace HO_107001 := am (Kd.S_elder' (pY66) (Kd.R_base ho0) hb)
       have HO114 := am (Kd.R_lower (Kd.R_new' (Kd.R_new' ho0 (Kd.R_lt (pY65))) (Kd.R_lt (rR HO111.1))) (below_size (pY28)))
       replace HO_107000 := am (Kd.R_elder' (pY65) (Kd.R_base ho0) hb)
       replace HO111 := am (Kd.R_elder' (rR HO111.1) (Kd.R_base ho0) hb)
       replace BK101 := bB pY58 hb
       replace BK102 := bB pY59 hb
       replace BK106 := bB pY60 hb
       replace BK108 := bB pY63 hb
       replace HB := bS pY28 hb
       (try clear hb)
       (try clear hb2)
       (try clear hk)
       (try clear hi)
       (try clear ho0)
       obtain ⟨Ao29, co29, eo29⟩ := Kd.R_slice HO114.1
       (first | subst eo29 | (injection eo29 with f1_ f2_ f3_; have f4_ := f1_.symm; have f5_ := f3_.symm; clear f1_ f2_ f3_; subst f4_; subst f5_))
       obtain ⟨Ao30, co30, eo30⟩ := Kd.R_slice HO111.1
       (first | subst eo30 | (injection eo30 with f1_ f2_ f3_; have f4_ := f1_.symm; have f5_ := f3_.symm; clear f1_ f2_ f3_; subst f4_; subst f5_))
       refine hK.out _ _ (uB2 BK106 (uA3 BK108)).1 (fun hHeld => ?_)
       clear hK K
       refine nM ?_
       refine pU 10 (some 27) ?_
       refine oN 11 (some 28) fun K hK => ?_
       refine value_ (w1 := ?_) (v := ?_) (by rfl) rfl ?_ ?_
       rotate_left 2
       ·go_simp
        constructor
        ·rfl
        ·rfl
       refine hK.out _ _ ⟨(blk_cell (blk_alloc BK106.1 _) 0).trans rfl, (blk_cell (blk_alloc BK106.1 _) 1).trans rfl, (blk_cell (blk_alloc BK108.1 _) 0).trans rfl, (blk_cell (blk_alloc BK108.1 _) 1).trans rfl, (blk_cell (blk_alloc BK108.1 _) 2).trans rfl⟩ (fun hHeld => ?_)
       clear hK K
       refine nM ?_
       refine oN 12 (some 29) fun K hK => ?_
       refine Kd.S_append_step k56 (w0 := w) w.heap.size (by rfl) (.tmp 18) (.tmp 28) 29 56 (.agg #[(.string ⟨#[]⟩), (.slice none 0 0), (.slice none 0 0)]) 64 rfl Try.underlying29 info56 rfl (by decide) (by omega) u107001 x107001_1 (⟨(rd_T56 l0_1 x13_1).f0, t109, t112⟩ : S56) [.string ((rd_T56 l0_1 x13_1).f0), .slice Ao30 t109.length co30, .slice Ao29 t112.length co29] (fun k_ => some k_ ≠ (.slice Ao8 t103.length co8 : Value).ownBlock ∧ k_ ≠ gb108) (fun k_ => some k_ = (.slice Ao30 t109.length co30 : Value).ownBlock ∨ some k_ = (.slice Ao29 t112.length co29 : Value).ownBlock) rfl rfl ?aP (fun k_ hk_ => hk_.elim (fun h_ => ((Kd.R_mono (ok' := fun k_ => ((fun k_ => some k_ ≠ (.slice Ao8 t103.length co8 : Value).ownBlock ∧ k_ ≠ gb108)) k_ ∧ some k_ ≠ (u107001 : Value).ownBlock) (Kd.R_types (Kd.R_apart' (HO111.1) (Kd.S_typed HO_107001.1) (by decide)) BK108.1 (by decide)) (fun k_ hk => ⟨⟨hk.1.1.1.2, hk.2⟩, hk.1.2⟩))).1 k_ h_.symm) (fun h_ => ((Kd.R_mono (ok' := fun k_ => ((fun k_ => some k_ ≠ (.slice Ao8 t103.length co8 : Value).ownBlock ∧ k_ ≠ gb108)) k_ ∧ some k_ ≠ (u107001 : Value).ownBlock) (Kd.R_types (Kd.R_apart' (HO114.1) (Kd.S_typed HO_107001.1) (by decide)) BK108.1 (by decide)) (fun k_ hk => ⟨⟨hk.1.1.1.2, hk.2⟩, hk.1.2⟩))).1 k_ h_.symm)) ?aF ?aO ?aB ?aS ?aL ?_
       (case aP => exact k56_mkM _ _ _ (⟨(rd_T56 l0_1 x13_1).f0, t109, t112⟩ : S56) (Kd.R_mono (Kd.R_tight rfl (Kd.R_mono (ok' := fun k_ => ((fun k_ => some k_ ≠ (.slice Ao8 t103.length co8 : Value).ownBlock ∧ k_ ≠ gb108)) k_ ∧ some k_ ≠ (u107001 : Value).ownBlock) (Kd.R_types (Kd.R_apart' (HO111.1) (Kd.S_typed HO_107001.1) (by decide)) BK108.1 (by decide)) (fun k_ hk => ⟨⟨hk.1.1.1.2, hk.2⟩, hk.1.2⟩))) (fun _ h_ => Or.inl h_)) (Kd.R_mono (Kd.R_tight rfl (Kd.R_mono (ok' := fun k_ => ((fun k_ => some k_ ≠ (.slice Ao8 t103.length co8 : Value).ownBlock ∧ k_ ≠ gb108)) k_ ∧ some k_ ≠ (u107001 : Value).ownBlock) (Kd.R_types (Kd.R_apart' (HO114.1) (Kd.S_typed HO_107001.1) (by decide)) BK108.1 (by decide)) (fun k_ hk => ⟨⟨hk.1.1.1.2, hk.2⟩, hk.1.2⟩))) (fun _ h_ => Or.inr (h_))) (sep_of HO111.1 HO114.1))
       (case aB => exact (pY28))
       (case aF => exact (fun k_ hk => ⟨Kd.fresh' (Kd.R_lt (pY65)) k_ hk, Kd.freshB (g := gb108) (o := .cells #[.string ((rd_T56 l0_1 x13_1).f0), .slice A107_1 ((rd_T56 l0_1 x13_1).f1).length c107_1, .slice A107_2 ((rd_T56 l0_1 x13_1).f2).length c107_2] 56 (0, 0)) (pY63) k_ hk⟩))
       (case aO => exact (by refine rS ?_; exact Kd.S_mono HO_107001.1 (fun k_ hk => ⟨⟨hk.1.1.1, hk.1.1.2⟩, fun e_ => e_.elim (fun h_ => hk.1.2 h_) (fun h_ => hk.2 h_)⟩)))
       (case aS => exact (below_size (pY28)))
       (case aL => have := LMc19.out; omega)
       intro v116 w31 ho hb hg hat
       rw [← Ny115.out] at ho
       replace HO_107000 := am (Kd.R_over' (pY65) (Kd.S_typed (pY66)) (by decide) hg)
       replace BK101 := am (blk_grown (g := gb101) (o := .cells #[.slice A0_0 l0_0.length c0_0, .slice (some ad107) l0_1.length c0_1] 31 (0, 0)) (pY58) hg (Kd.S_ne HO_107001.1 BK101.1 (by decide)))
       replace BK102 := am (blk_grown (g := gb102) (o := .cells #[.slice none 0 0, .slice none 0 0] 31 (0, 0)) (pY59) hg (Kd.S_ne HO_107001.1 BK102.1 (by decide)))
       replace BK106 := am (blk_grown (g := gb106) (o := .cells #[.slice Ao8 t103.length co8, u107001] 31 (0, 0)) (pY60) hg (Kd.S_ne HO_107001.1 BK106.1 (by decide)))
       replace BK108 := am (blk_grown (g := gb108) (o := .cells #[.string ((rd_T56 l0_1 x13_1).f0), .slice A107_1 ((rd_T56 l0_1 x13_1).f1).length c107_1, .slice A107_2 ((rd_T56 l0_1 x13_1).f2).length c107_2] 56 (0, 0)) (pY63) hg (Kd.S_away HO_107001.1 (fun _ hk => hk.1.1.2)))
       replace HB := am (hb)
       have HO117 := am (ho)
       clear HO_107001
       clear HO111
       clear HO114
       clear ho hb hg hat
       obtain ⟨Ao32, co32, eo32⟩ := Kd.S_slice HO117.1
       (first | subst eo32 | (injection eo32 with f1_ f2_ f3_; have f4_ := f1_.symm; have f5_ := f3_.symm; clear f1_ f2_ f3_; subst f4_; subst f5_))
       refine hK.out _ _ (uB2 BK106 (uA3 BK108)).1 (fun hHeld => ?_)
       clear hK K
       refine nM ?_
       refine pU 13 (some 30) ?_
       refine last_ (i := 14) (N := none) (bz 15 32767) rfl rfl (one_of HT_.out (by kernel_rfl)) (by decide) (fun K hK => ?_)
       have hs33 : w31.cell? ⟨gb106, 1, none⟩ = some (u107001) := (blk_cell BK106.1 1).trans rfl
       have hfs33 := blk_frozen BK106.1 1
       have hns33_0 := NB101_106.1
       have hns33_1 := NB102_106.1
       have hns33_3 := NB108_106.1
       have hms33_0 := NB106_101.1
       have hms33_1 := NB106_102.1
       have hms33_3 := NB106_108.1
       refine skip_ (w1 := ?_) (by rfl) rfl ?_ ?_
       rotate_left
       ·go_simp
        rfl
       refine hK.out _ _ ?_
       clear hK K
       refine done_ (done_of HT_.out (by kernel_rfl)) ?_
       try go_wp2
       go_roundg k1
       case measure => have := HK1.out; omega
       case rel => exact ⟨(wrap64 (x13_1 + 1)), (y115), (.slice Ao32 y115.length co32), (pY83), H', ⟨by have := HK1.out; omega⟩, ⟨by refine rR ?_; exact Kd.R_mono (Kd.R_far (p := ⟨gb106, 1, none⟩) (Kd.R_types HO_107000.1 BK106.1 (by decide)) (fun _ hk => hk.2) (.slice Ao32 y115.length co32)) (fun _ hk => trivial)⟩, ⟨by refine rS ?_; exact Kd.S_mono (Kd.S_far (p := ⟨gb106, 1, none⟩) (Kd.S_types HO117.1 BK106.1 (by decide)) (fun _ hk => hk.2) (.slice Ao32 y115.length co32)) (fun _ hk => hk.1.1)⟩, ⟨by (with_reducible repeat (first | refine blk_drewN ?_ _ | refine blk_drew ?_ | refine blk_alloc ?_ _)); refine blk_far ?_ NB101_106.1 _; (with_reducible repeat (first | refine blk_drewN ?_ _ | refine blk_drew ?_ | refine blk_alloc ?_ _)); exact BK101.1⟩, ⟨by (with_reducible repeat (first | refine blk_drewN ?_ _ | refine blk_drew ?_ | refine blk_alloc ?_ _)); refine blk_far ?_ NB102_106.1 _; (with_reducible repeat (first | refine blk_drewN ?_ _ | refine blk_drew ?_ | refine blk_alloc ?_ _)); exact BK102.1⟩, ⟨by (with_reducible repeat (first | refine blk_drewN ?_ _ | refine blk_drew ?_ | refine blk_alloc ?_ _)); refine blk_put (cs := #[.slice Ao8 t103.length co8, u107001]) ?_ 1 _ rfl; (with_reducible repeat (first | refine blk_drewN ?_ _ | refine blk_drew ?_ | refine blk_alloc ?_ _)); exact BK106.1⟩, ⟨pY28⟩⟩
      ·rw [if_neg c19] at H
       exact absurd H (by simp)
     ·rw [if_neg c16] at H
      exact absurd H (by simp)
    ·rw [if_neg c15] at H
     exact absurd H (by simp)
   ·rw [if_neg c14] at H
    have c14b0 : decide (x13_1 < (l0_1.length : Int)) = false := decide_eq_false c14
    clear c14
    simp only [Option.some.injEq, Prod.mk.injEq] at H
    obtain ⟨rfl, rfl⟩ := H
    have hnb34 := NB106_101.1
    have hnc34 := NB101_106.1
    have hnb35 := NB106_102.1
    have hnc35 := NB102_106.1
    obtain ⟨hcz36_0, hcz36_1, hfz36_0, hfz36_1⟩ := cz2 BK106
    have hnb37 := NB102_101.1
    have hnc37 := NB101_102.1
    obtain ⟨hcz38_0, hcz38_1, hfz38_0, hfz38_1⟩ := cz2 BK102
    obtain ⟨Ao39, co39, eo39⟩ := Kd.S_slice HO_107001.1
    subst eo39
    go_wp2
    refine bodyPost_ret (results_cell_row rfl _ _ gb102 31 #[.slice Ao8 t103.length co8, .slice Ao39 x107001_1.length co39] (0, 0) _ rfl (by (with_reducible repeat (first | refine blk_drewN ?_ _ | refine blk_drew ?_ | refine blk_alloc ?_ _)); refine blk_put (cs := #[.slice Ao8 t103.length co8, .slice none 0 0]) ?_ 1 _ rfl; (with_reducible repeat (first | refine blk_drewN ?_ _ | refine blk_drew ?_ | refine blk_alloc ?_ _)); refine blk_put (cs := #[.slice none 0 0, .slice none 0 0]) ?_ 0 _ rfl; (with_reducible repeat (first | refine blk_drewN ?_ _ | refine blk_drew ?_ | refine blk_alloc ?_ _)); exact BK102.1) Try.underlying31 rfl (by kernel_rfl)) rfl ?_
    exact ⟨_, _, by first | rfl | (simp [errW_none, errW_some] <;> rfl) | (simp [*, errW_none, errW_some] <;> rfl), by refine rR ?_; exact Kd.R_mono (Kd.R_far (p := ⟨gb102, 1, none⟩) (Kd.R_far (p := ⟨gb102, 0, none⟩) (Kd.R_types HO_107000.1 BK102.1 (by decide)) (fun _ hk => hk.2) (.slice Ao8 t103.length co8)) (fun _ hk => hk.2) (.slice Ao39 x107001_1.length co39)) (fun _ hk => trivial), by refine rS ?_; exact Kd.S_mono (Kd.S_far (p := ⟨gb102, 1, none⟩) (Kd.S_far (p := ⟨gb102, 0, none⟩) (Kd.S_types HO_107001.1 BK102.1 (by decide)) (fun _ hk => hk.2) (.slice Ao8 t103.length co8)) (fun _ hk => hk.2) (.slice Ao39 x107001_1.length co39)) (fun _ hk => hk.1), pY42⟩
end Go.Proofs.Ytaofjgnhapnndaa.Q
namespace Go.Proofs.Ytaofjgnhapnndaa.Q
open Go.RowKit Go.Proofs.YtaofjgnhapnndaaW.PrintWords Go.Proofs.YtaofjgnhapnndaaW.PrintLast Go.Proofs.YtaofjgnhapnndaaW.PrintMore
set_option linter.unusedVariables false
set_option linter.unusedSimpArgs false
def impl_ShareAsk.l0 : Nat → List ByteArray → Int → List (S56) → Int → Int → List ByteArray → List (S56) → List ByteArray → List (S56) → Option (List ByteArray × (List (S56)) × Int)
 | 0, _, _, _, _, _, _, _, _, _ => none
 | k + 1, x2, x9, x39, x40, x41, x102000, x102001, x111000, x111001 => if x41 < x40 then (if 0 ≤ x41 then (if x41 < (x39.length : Int) then (if x41 = x9 then (impl_ShareAsk.l0 k x2 x9 x39 x40 (wrap64 (x41 + 1)) x102000 x102001 x111000 x111001) else ((impl_common.f ((rd_T56 x39 x41).f1) x2).bind fun t116 => (if t116 = true then (some (x111000, x111001, 5)) else (impl_ShareAsk.l0 k x2 x9 x39 x40 (wrap64 (x41 + 1)) x102000 x102001 x111000 x111001)))) else (none)) else (none)) else ((impl_copyBook.f k x102000 x102001).bind fun bt117 => (if 0 ≤ x9 then (if x9 < (x102001.length : Int) then ((slices_Clone_string_string.f ((rd_T56 x102001 x9).f1)).bind fun t125 => (if t125.length + x2.length < 8796093022208 then ((sort_Strings.f (t125 ++ x2)).bind fun t131 => ((slices_Compact_string_string.f t131).bind fun t132 => (if x9 < (bt117.2.length : Int) then ((some (bt117.2.set (x9 : Int).toNat (⟨(rd_T56 bt117.2 x9).f0, t132, (rd_T56 bt117.2 x9).f2⟩ : S56) : List (S56))).bind fun y135 => ((impl_ShareSafe.f k x102000 x102001).bind fun t136 => (if t136 = true then ((impl_ShareSafe.f k bt117.1 y135).bind fun t137 => (if t137 = true then (some (bt117.1, y135, 0)) else (some (x111000, x111001, 6)))) else (some (bt117.1, y135, 0))))) else (none)))) else (none))) else (none)) else (none)))
def impl_ShareAsk.f (k : Nat) (l0_0 : List ByteArray) (l0_1 : List (S56)) (a1 : ByteArray) (l2 : List ByteArray) : Option (List ByteArray × (List (S56)) × Int) := (impl_ShareBookOk.f k l0_0 l0_1).bind fun t103 => (if t103 = true then ((impl_copyBook.f k l0_0 l0_1).bind fun bt104 => ((impl_ShareBook_at.f l0_0 l0_1 a1).bind fun t111 => (if t111 < 0 then (some (bt104.1, bt104.2, 3)) else (if 0 ≤ t111 then (if t111 < (l0_1.length : Int) then ((impl_of.f k l2 ((rd_T56 l0_1 t111).f2)).bind fun t113 => (if t113 = true then (impl_ShareAsk.l0 k l2 t111 l0_1 (l0_1.length : Int) 0 l0_0 l0_1 bt104.1 bt104.2) else (some (bt104.1, bt104.2, 2)))) else (none)) else (none))))) else (some (([] : List ByteArray), ([] : List (S56)), 1)))
def impl_ShareAsk.T18 : Bool × List (List Nat × List Nat) := (true, [([], []), ([0], [0]), ([], []), ([], []), ([3], [3]), ([1, 2, 0, 1, 2, 3, 4], [1, 2]), ([5, 0, 1, 2, 3, 4], [5]), ([6, 4, 4, 0, 1, 2, 3, 4], [4, 6])])
def impl_ShareAsk.B18 : List Nat := [0, 1, 0, 0, 8, 31, 63, 127]
theorem impl_ShareAsk.tab18 : rtab .any (opsOf Try.f62 18) = impl_ShareAsk.T18 := by kernel_rfl
theorem impl_ShareAsk.bits18 : waitsOk impl_ShareAsk.T18.2 impl_ShareAsk.B18 = true := by kernel_rfl
set_option maxHeartbeats 8000000 in
set_option maxRecDepth 100000 in
theorem impl_ShareAsk.calls (k : Nat) (A0_0 : Option Addr) (c0_0 : Nat) (l0_0 : List ByteArray) (A0_1 : Option Addr) (c0_1 : Nat) (l0_1 : List (S56)) (a1 : ByteArray) (A2 : Option Addr) (c2 : Nat) (l2 : List ByteArray) (r1 : List ByteArray) (r2 : List (S56)) (r3 : Int) (w : World) (hr0_0 : Kd.C Kd.string w A0_0 l0_0.length l0_0) (hc0_0 : l0_0.length ≤ c0_0) (hr0_1 : Kd.C k56 w A0_1 l0_1.length l0_1) (hc0_1 : l0_1.length ≤ c0_1) (hr2 : Kd.C Kd.string w A2 l2.length l2) (hc2 : l2.length ≤ c2) (h : impl_ShareAsk.f k l0_0 l0_1 a1 l2 = some (r1, r2, r3)) :
  Calls Try.prog 62 #[.agg #[.slice A0_0 l0_0.length c0_0, .slice A0_1 l0_1.length c0_1], .string a1, .slice A2 l2.length c2] w fun e w' => ∃ v0_ v1_ : Value, e = .returned (.tuple #[.agg #[v0_, v1_], .int .i64 r3]) ∧ Kd.R Kd.string 9 w' w.heap.size (fun _ => True) v0_ r1 ∧ Kd.S k56 56 w' w.heap.size (fun k_ => some k_ ≠ (v0_ : Value).ownBlock) v1_ r2 ∧ Below w.heap.size w w' := by
 have hu31 := Try.underlying31
 have hu56 := Try.underlying56
 have HR0_0 := am hr0_0
 have HC0_0 := am hc0_0
 clear hr0_0 hc0_0
 have HR0_1 := am hr0_1
 have HC0_1 := am hc0_1
 clear hr0_1 hc0_1
 have HR2 := am hr2
 have HC2 := am hc2
 clear hr2 hc2
 have HB := am (Below.refl w.heap.size w)
 have H : ((impl_ShareBookOk.f k l0_0 l0_1).bind fun t103 => (if t103 = true then ((impl_copyBook.f k l0_0 l0_1).bind fun bt104 => ((impl_ShareBook_at.f l0_0 l0_1 a1).bind fun t111 => (if t111 < 0 then (some (bt104.1, bt104.2, 3)) else (if 0 ≤ t111 then (if t111 < (l0_1.length : Int) then ((impl_of.f k l2 ((rd_T56 l0_1 t111).f2)).bind fun t113 => (if t113 = true then (impl_ShareAsk.l0 k l2 t111 l0_1 (l0_1.length : Int) 0 l0_0 l0_1 bt104.1 bt104.2) else (some (bt104.1, bt104.2, 2)))) else (none)) else (none))))) else (some (([] : List ByteArray), ([] : List (S56)), 1)))) = some (r1, r2, r3) := h
 clear h
 obtain ⟨t103, A4, H⟩ := bd H
 by_cases c5 : t103 = true
 ·subst c5
  replace H := iT H
  obtain ⟨⟨t104, t107⟩, A6, H⟩ := bd H
  dsimp only at H
  obtain ⟨t111, A7, H⟩ := bd H
  by_cases c8 : t111 < 0
  ·rw [if_pos c8] at H
   have c8b0 : decide (t111 < 0) = true := decide_eq_true c8
   clear c8
   simp only [Option.some.injEq, Prod.mk.injEq] at H
   obtain ⟨rfl, rfl, rfl⟩ := H
   go_enter Try.func62, Try.ntmps62
   go_wp2_with (first | (refine bX 3 #[.slice A0_0 l0_0.length c0_0, .slice A0_1 l0_1.length c0_1] 31 ?_; intro gb101 hg w9 hbox hb; have BK101 := am (hbox); have GW101 := am (pY52 : w.heap.size ≤ gb101); have GE101 := am (pY52 : w.heap.size ≤ gb101); replace HB := bS pY55 hb; clear hb hbox hg) | (refine bX 6 #[.slice none 0 0, .slice none 0 0] 31 ?_; intro gb102 hg w10 hbox hb; have BK102 := am (hbox); have GW102 := am (pY45 : w.heap.size ≤ gb102); have GE102 := am (pY45 : w.heap.size ≤ gb102); replace HB := bS pY53 hb; have NB101_102 := nL pY58 hg; have NB102_101 := nG pY58 hg; replace BK101 := bB pY58 hb; clear hb hbox hg; have hnb11 := NB101_102.1; have hnc11 := NB102_101.1; obtain ⟨hcz12_0, hcz12_1, hfz12_0, hfz12_1⟩ := cz2 BK101) | ((with_reducible refine gate_callee (f := 24) rfl ?_); refine goesL_ (some 15) rfl rfl Try.func24 (by kernel_rfl) rfl #[.agg #[.slice A0_0 l0_0.length c0_0, .slice A0_1 l0_1.length c0_1]] rfl (pY54) ?_; (with_reducible refine (impl_ShareBookOk.calls k _ _ l0_0 _ _ l0_1 true _ ?side1 ?side2 ?side3 ?side4 A4.out).mono ?_); (case side1 => exact pC (Kd.C_below HR0_0.1 HB.1)); (case side2 => exact HC0_0.1); (case side3 => exact pC (Kd.C_below HR0_1.1 HB.1)); (case side4 => exact HC0_1.1); rintro e w13 ⟨rfl, hb⟩; refine ⟨_, rfl, ?_⟩; replace BK101 := bB pY58 hb; replace BK102 := bB pY59 hb; replace HB := bS pY46 hb; (try clear hb); (try clear hb2); (try clear hk); (try clear hi); obtain ⟨hcz14_0, hcz14_1, hfz14_0, hfz14_1⟩ := cz2 BK101) | ((with_reducible refine gate_callee (f := 90) rfl ?_); refine goesL_ (some 19) rfl rfl Try.func90 (by kernel_rfl) rfl #[.agg #[.slice A0_0 l0_0.length c0_0, .slice A0_1 l0_1.length c0_1]] rfl (pY54) ?_; (with_reducible refine (impl_copyBook.calls k _ _ l0_0 _ _ l0_1 t104 t107 _ ?side1 ?side2 ?side3 ?side4 A6.out).mono ?_); (case side1 => exact pC (Kd.C_below HR0_0.1 HB.1)); (case side2 => exact HC0_0.1); (case side3 => exact pC (Kd.C_below HR0_1.1 HB.1)); (case side4 => exact HC0_1.1); rintro e w15 ⟨v105, v108, rfl, ho0, ho1, hb⟩; refine ⟨_, rfl, ?_⟩; have HO106 := am (Kd.R_lower ho0 (below_size (pY46))); have HO109 := am (Kd.S_lower ho1 (below_size (pY46))); replace BK101 := bB pY58 hb; replace BK102 := bB pY59 hb; replace HB := bS pY46 hb; (try clear hb); (try clear hb2); (try clear hk); (try clear hi); (try clear ho0); (try clear ho1)) | (refine bX 8 #[.slice none 0 0, .slice none 0 0] 31 ?_; intro gb110 hg w16 hbox hb; replace HO106 := am (Kd.R_below (pY74) hb); replace HO109 := am (Kd.S_below (rS HO109.1) hb); have BK110 := am (hbox); have GW110 := am (pY39 : w.heap.size ≤ gb110); have GE110 := am (pY39 : w.heap.size ≤ gb110); replace HB := bS pY46 hb; have NB101_110 := nL pY58 hg; have NB110_101 := nG pY58 hg; replace BK101 := bB pY58 hb; have NB102_110 := nL pY59 hg; have NB110_102 := nG pY59 hg; replace BK102 := bB pY59 hb; clear hb hbox hg; obtain ⟨Ao17, co17, eo17⟩ := Kd.R_slice HO106.1; subst eo17; have hnb18 := NB110_101.1; have hnc18 := NB101_110.1; have hnb19 := NB110_102.1; have hnc19 := NB102_110.1; obtain ⟨hcz20_0, hcz20_1, hfz20_0, hfz20_1⟩ := cz2 BK110; obtain ⟨Ao21, co21, eo21⟩ := Kd.S_slice HO109.1; subst eo21; obtain ⟨hcz22_0, hcz22_1, hfz22_0, hfz22_1⟩ := cz2 BK101) | ((with_reducible refine gate_callee (f := 84) rfl ?_); refine goesL_ (some 22) rfl rfl Try.func84 (by kernel_rfl) rfl #[.agg #[.slice A0_0 l0_0.length c0_0, .slice A0_1 l0_1.length c0_1], .string a1] rfl (pY54) ?_; (with_reducible refine (impl_ShareBook_at.calls _ _ l0_0 _ _ l0_1 a1 t111 _ ?side1 ?side2 ?side3 ?side4 A7.out).mono ?_); (case side1 => exact Kd.C_below HR0_0.1 (pY43)); (case side2 => exact HC0_0.1); (case side3 => exact Kd.C_below HR0_1.1 (pY43)); (case side4 => exact HC0_1.1); rintro e w23 ⟨rfl, hb⟩; refine ⟨_, rfl, ?_⟩; replace HO106 := am (Kd.R_below (pY15) hb); replace HO109 := am (Kd.S_below (by refine rS ?_; exact (Kd.S_mono (Kd.S_far (p := ⟨gb110, 1, none⟩) (Kd.S_far (p := ⟨gb110, 0, none⟩) (Kd.S_types HO109.1 BK110.1 (by decide)) (fun _ hk => hk.2) (.slice Ao17 t104.length co17)) (fun _ hk => hk.2) (.slice Ao21 t107.length co21)) (fun _ h_ => h_.1))) hb); replace BK101 := am (blk_below (g := gb101) (o := .cells #[.slice A0_0 l0_0.length c0_0, .slice A0_1 l0_1.length c0_1] 31 (0, 0)) (pY10) hb); replace BK102 := am (blk_below (g := gb102) (o := .cells #[.slice none 0 0, .slice none 0 0] 31 (0, 0)) (pY11) hb); replace BK110 := am (blk_below (g := gb110) (o := .cells #[.slice Ao17 t104.length co17, .slice Ao21 t107.length co21] 31 (0, 0)) (pY5) hb); replace HB := bS pY43 hb; (try clear hb); (try clear hb2); (try clear hk); (try clear hi); obtain ⟨hcz24_0, hcz24_1, hfz24_0, hfz24_1⟩ := cz2 BK110; obtain ⟨hcz25_0, hcz25_1, hfz25_0, hfz25_1⟩ := cz2 BK102))
   refine bodyPost_ret (results_ct rfl _ _ gb102 31 #[.slice Ao17 t104.length co17, .slice Ao21 t107.length co21] (0, 0) _ rfl (pY6) Try.underlying31 rfl (by kernel_rfl)) rfl ?_
   exact ⟨_, _, by first | rfl | (simp [errW_none, errW_some] <;> rfl) | (simp [*, errW_none, errW_some] <;> rfl), by refine rR ?_; exact Kd.R_mono (Kd.R_far (p := ⟨gb102, 1, none⟩) (Kd.R_far (p := ⟨gb102, 0, none⟩) (Kd.R_types HO106.1 BK102.1 (by decide)) (fun _ hk => hk.2) (.slice Ao17 t104.length co17)) (fun _ hk => hk.2) (.slice Ao21 t107.length co21)) (fun _ hk => trivial), by refine rS ?_; exact Kd.S_mono (Kd.S_far (p := ⟨gb102, 1, none⟩) (Kd.S_far (p := ⟨gb102, 0, none⟩) (Kd.S_types HO109.1 BK102.1 (by decide)) (fun _ hk => hk.2) (.slice Ao17 t104.length co17)) (fun _ hk => hk.2) (.slice Ao21 t107.length co21)) (fun _ hk => hk.1), pY43⟩
  ·rw [if_neg c8] at H
   have c8b0 : decide (t111 < 0) = false := decide_eq_false c8
   clear c8
   by_cases c26 : 0 ≤ t111
   ·rw [if_pos c26] at H
    have c26b0 : decide (0 ≤ t111) = true := decide_eq_true c26
    clear c26
    by_cases c27 : t111 < (l0_1.length : Int)
    ·rw [if_pos c27] at H
     have c27b0 : decide (t111 < (l0_1.length : Int)) = true := decide_eq_true c27
     clear c27
     obtain ⟨t113, A28, H⟩ := bd H
     by_cases c29 : t113 = true
     ·subst c29
      replace H := iT H
      have H' := am H
      clear H
      go_enter Try.func62, Try.ntmps62
      go_wp2_with (first | (refine bX 3 #[.slice A0_0 l0_0.length c0_0, .slice A0_1 l0_1.length c0_1] 31 ?_; intro gb101 hg w30 hbox hb; have BK101 := am (hbox); have GW101 := am (pY52 : w.heap.size ≤ gb101); have GE101 := am (pY52 : w.heap.size ≤ gb101); replace HB := bS pY55 hb; clear hb hbox hg) | (refine bX 6 #[.slice none 0 0, .slice none 0 0] 31 ?_; intro gb102 hg w31 hbox hb; have BK102 := am (hbox); have GW102 := am (pY45 : w.heap.size ≤ gb102); have GE102 := am (pY45 : w.heap.size ≤ gb102); replace HB := bS pY53 hb; have NB101_102 := nL pY58 hg; have NB102_101 := nG pY58 hg; replace BK101 := bB pY58 hb; clear hb hbox hg; have hnb32 := NB101_102.1; have hnc32 := NB102_101.1; obtain ⟨hcz33_0, hcz33_1, hfz33_0, hfz33_1⟩ := cz2 BK101) | ((with_reducible refine gate_callee (f := 24) rfl ?_); refine goesL_ (some 15) rfl rfl Try.func24 (by kernel_rfl) rfl #[.agg #[.slice A0_0 l0_0.length c0_0, .slice A0_1 l0_1.length c0_1]] rfl (pY54) ?_; (with_reducible refine (impl_ShareBookOk.calls k _ _ l0_0 _ _ l0_1 true _ ?side1 ?side2 ?side3 ?side4 A4.out).mono ?_); (case side1 => exact pC (Kd.C_below HR0_0.1 HB.1)); (case side2 => exact HC0_0.1); (case side3 => exact pC (Kd.C_below HR0_1.1 HB.1)); (case side4 => exact HC0_1.1); rintro e w34 ⟨rfl, hb⟩; refine ⟨_, rfl, ?_⟩; replace BK101 := bB pY58 hb; replace BK102 := bB pY59 hb; replace HB := bS pY46 hb; (try clear hb); (try clear hb2); (try clear hk); (try clear hi); obtain ⟨hcz35_0, hcz35_1, hfz35_0, hfz35_1⟩ := cz2 BK101) | ((with_reducible refine gate_callee (f := 90) rfl ?_); refine goesL_ (some 19) rfl rfl Try.func90 (by kernel_rfl) rfl #[.agg #[.slice A0_0 l0_0.length c0_0, .slice A0_1 l0_1.length c0_1]] rfl (pY54) ?_; (with_reducible refine (impl_copyBook.calls k _ _ l0_0 _ _ l0_1 t104 t107 _ ?side1 ?side2 ?side3 ?side4 A6.out).mono ?_); (case side1 => exact pC (Kd.C_below HR0_0.1 HB.1)); (case side2 => exact HC0_0.1); (case side3 => exact pC (Kd.C_below HR0_1.1 HB.1)); (case side4 => exact HC0_1.1); rintro e w36 ⟨v105, v108, rfl, ho0, ho1, hb⟩; refine ⟨_, rfl, ?_⟩; have HO106 := am (Kd.R_lower ho0 (below_size (pY46))); have HO109 := am (Kd.S_lower ho1 (below_size (pY46))); replace BK101 := bB pY58 hb; replace BK102 := bB pY59 hb; replace HB := bS pY46 hb; (try clear hb); (try clear hb2); (try clear hk); (try clear hi); (try clear ho0); (try clear ho1)) | (refine bX 8 #[.slice none 0 0, .slice none 0 0] 31 ?_; intro gb110 hg w37 hbox hb; replace HO106 := am (Kd.R_below (pY74) hb); replace HO109 := am (Kd.S_below (rS HO109.1) hb); have BK110 := am (hbox); have GW110 := am (pY39 : w.heap.size ≤ gb110); have GE110 := am (pY39 : w.heap.size ≤ gb110); replace HB := bS pY46 hb; have NB101_110 := nL pY58 hg; have NB110_101 := nG pY58 hg; replace BK101 := bB pY58 hb; have NB102_110 := nL pY59 hg; have NB110_102 := nG pY59 hg; replace BK102 := bB pY59 hb; clear hb hbox hg; obtain ⟨Ao38, co38, eo38⟩ := Kd.R_slice HO106.1; subst eo38; have hnb39 := NB110_101.1; have hnc39 := NB101_110.1; have hnb40 := NB110_102.1; have hnc40 := NB102_110.1; obtain ⟨hcz41_0, hcz41_1, hfz41_0, hfz41_1⟩ := cz2 BK110; obtain ⟨Ao42, co42, eo42⟩ := Kd.S_slice HO109.1; subst eo42; obtain ⟨hcz43_0, hcz43_1, hfz43_0, hfz43_1⟩ := cz2 BK101) | ((with_reducible refine gate_callee (f := 84) rfl ?_); refine goesL_ (some 22) rfl rfl Try.func84 (by kernel_rfl) rfl #[.agg #[.slice A0_0 l0_0.length c0_0, .slice A0_1 l0_1.length c0_1], .string a1] rfl (pY54) ?_; (with_reducible refine (impl_ShareBook_at.calls _ _ l0_0 _ _ l0_1 a1 t111 _ ?side1 ?side2 ?side3 ?side4 A7.out).mono ?_); (case side1 => exact Kd.C_below HR0_0.1 (pY43)); (case side2 => exact HC0_0.1); (case side3 => exact Kd.C_below HR0_1.1 (pY43)); (case side4 => exact HC0_1.1); rintro e w44 ⟨rfl, hb⟩; refine ⟨_, rfl, ?_⟩; replace HO106 := am (Kd.R_below (by refine rR ?_; exact (Kd.R_mono (Kd.R_far (p := ⟨gb110, 1, none⟩) (Kd.R_far (p := ⟨gb110, 0, none⟩) (Kd.R_types HO106.1 BK110.1 (by decide)) (fun _ hk => hk.2) (.slice Ao38 t104.length co38)) (fun _ hk => hk.2) (.slice Ao42 t107.length co42)) (fun _ h_ => h_.1))) hb); replace HO109 := am (Kd.S_below (by refine rS ?_; exact (Kd.S_mono (Kd.S_far (p := ⟨gb110, 1, none⟩) (Kd.S_far (p := ⟨gb110, 0, none⟩) (Kd.S_types HO109.1 BK110.1 (by decide)) (fun _ hk => hk.2) (.slice Ao38 t104.length co38)) (fun _ hk => hk.2) (.slice Ao42 t107.length co42)) (fun _ h_ => h_.1))) hb); replace BK101 := am (blk_below (g := gb101) (o := .cells #[.slice A0_0 l0_0.length c0_0, .slice A0_1 l0_1.length c0_1] 31 (0, 0)) (pY10) hb); replace BK102 := am (blk_below (g := gb102) (o := .cells #[.slice none 0 0, .slice none 0 0] 31 (0, 0)) (pY11) hb); replace BK110 := am (blk_below (g := gb110) (o := .cells #[.slice Ao38 t104.length co38, .slice Ao42 t107.length co42] 31 (0, 0)) (by (with_reducible repeat (first | refine blk_drewN ?_ _ | refine blk_drew ?_ | refine blk_alloc ?_ _)); refine blk_put (cs := #[.slice Ao38 t104.length co38, .slice none 0 0]) ?_ 1 _ rfl; (with_reducible repeat (first | refine blk_drewN ?_ _ | refine blk_drew ?_ | refine blk_alloc ?_ _)); refine blk_put (cs := #[.slice none 0 0, .slice none 0 0]) ?_ 0 _ rfl; (with_reducible repeat (first | refine blk_drewN ?_ _ | refine blk_drew ?_ | refine blk_alloc ?_ _)); exact BK110.1) hb); replace HB := bS pY43 hb; (try clear hb); (try clear hb2); (try clear hk); (try clear hi); obtain ⟨hcz45_0, hcz45_1, hfz45_0, hfz45_1⟩ := cz2 BK101; have p112 : 0 ≤ (t111 : Int) := of_decide_eq_true (pY82); have q112 : t111 < (l0_1.length : Int) := of_decide_eq_true (pY82); obtain ⟨ad112, A112_1, c112_1, A112_2, c112_2, e112, hx112_0, hx112_1, hx112_2, hl112_1, hi112_1, hl112_2, hi112_2⟩ := at_T56 HR0_1.1 t111 p112 q112; cases e112; replace hx112_0 := hX HB hx112_0; replace hx112_1 := hX HB hx112_1; replace hx112_2 := hX HB hx112_2; have HR112_1 := am hi112_1; have HC112_1 := am hl112_1; clear hi112_1 hl112_1; have HR112_2 := am hi112_2; have HC112_2 := am hl112_2; clear hi112_2 hl112_2; replace p112 := eq_true p112; replace q112 := eq_true q112) | ((with_reducible refine gate_callee (f := 74) rfl ?_); refine goesL_ (some 35) rfl rfl Try.func74 (by kernel_rfl) rfl #[.slice A2 l2.length c2, .slice A112_2 ((rd_T56 l0_1 t111).f2).length c112_2] rfl (pY54) ?_; (with_reducible refine (impl_of.calls k _ _ l2 _ _ ((rd_T56 l0_1 t111).f2) true _ ?side1 ?side2 ?side3 ?side4 A28.out).mono ?_); (case side1 => exact pC (Kd.C_below HR2.1 HB.1)); (case side2 => exact HC2.1); (case side3 => exact pC (Kd.C_below HR112_2.1 HB.1)); (case side4 => exact HC112_2.1); rintro e w' ⟨rfl, ⟨nd, rfl⟩⟩; refine ⟨_, rfl, ?_⟩))
      go_loopg [41] k (fun kq v41 w' => ∃ (x41_1 : Int), v41 = .int .i64 x41_1 ∧ Aside0 (impl_ShareAsk.l0 kq l2 t111 l0_1 (l0_1.length : Int) x41_1 l0_0 l0_1 t104 t107 = some (r1, r2, r3)) ∧ Aside0 (kq ≤ k) ∧ Aside0 (Kd.R Kd.string 9 w' w.heap.size (fun _ => True) (.slice Ao38 t104.length co38) t104) ∧ Aside0 (Kd.S k56 56 w' w.heap.size (fun k_ => some k_ ≠ ((.slice Ao38 t104.length co38) : Value).ownBlock) (.slice Ao42 t107.length co42) t107) ∧ Aside0 (w'.heap[gb101]? = some (.cells #[(.slice A0_0 l0_0.length c0_0), (.slice (some ad112) l0_1.length c0_1)] 31 (0, 0))) ∧ Aside0 (w'.heap[gb102]? = some (.cells #[(.slice none 0 0), (.slice none 0 0)] 31 (0, 0))) ∧ Aside0 (w'.heap[gb110]? = some (.cells #[(.slice Ao38 t104.length co38), (.slice Ao42 t107.length co42)] 31 (0, 0))) ∧ Aside0 (Below w.heap.size w w'))
      case atStart => exact ⟨(0), (pY83), H', ⟨Nat.le_refl _⟩, ⟨rR HO106.1⟩, ⟨rS HO109.1⟩, ⟨rB BK101.1⟩, ⟨rB BK102.1⟩, ⟨rB BK110.1⟩, ⟨pY43⟩⟩
      case round =>
       clear H'
       try clear c2
       try clear c5
       try clear c8
       try clear c8b0
       try clear c26
       try clear c26b0
       try clear c27
       try clear c27b0
       try clear c29
       try clear hcz33_0
       try clear hcz33_1
       try clear hcz35_0
       try clear hcz35_1
       try clear hcz41_0
       try clear hcz41_1
       try clear hcz43_0
       try clear hcz43_1
       try clear hcz45_0
       try clear hcz45_1
       try clear hfz33_0
       try clear hfz33_1
       try clear hfz35_0
       try clear hfz35_1
       try clear hfz41_0
       try clear hfz41_1
       try clear hfz43_0
       try clear hfz43_1
       try clear hfz45_0
       try clear hfz45_1
       try clear hx112_0
       try clear hx112_1
       try clear hx112_2
       try clear p112
       try clear q112
       obtain ⟨x41_1, rfl, HA, HK1, HO_111000, HO_111001, BK101, BK102, BK110, HB⟩ := hrel
       cases gk with
       | zero => exact absurd HA.out (by simp [impl_ShareAsk.l0])
       | succ k1 =>
        have H := HA.out
        clear HA
        simp only [impl_ShareAsk.l0] at H
        by_cases c46 : x41_1 < (l0_1.length : Int)
        ·rw [if_pos c46] at H
         have c46b0 : decide (x41_1 < (l0_1.length : Int)) = true := decide_eq_true c46
         clear c46
         by_cases c47 : 0 ≤ x41_1
         ·rw [if_pos c47] at H
          have c47b0 : decide (0 ≤ x41_1) = true := decide_eq_true c47
          clear c47
          by_cases c48 : x41_1 < (l0_1.length : Int)
          ·rw [if_pos c48] at H
           have c48b0 : decide (x41_1 < (l0_1.length : Int)) = true := decide_eq_true c48
           clear c48
           by_cases c49 : x41_1 = t111
           ·rw [if_pos c49] at H
            have c49b0 : (x41_1 == t111) = true := beq_iff_eq.mpr c49
            have c49b1 : (x41_1 != t111) = false := bne_eq_false_iff_eq.mpr c49
            clear c49
            have H' := am H
            clear H
            have p114 : 0 ≤ (x41_1 : Int) := of_decide_eq_true (pY82)
            have q114 : x41_1 < (l0_1.length : Int) := of_decide_eq_true (pY82)
            obtain ⟨ad114, A114_1, c114_1, A114_2, c114_2, e114, hx114_0, hx114_1, hx114_2, hl114_1, hi114_1, hl114_2, hi114_2⟩ := at_T56 HR0_1.1 x41_1 p114 q114
            obtain rfl : ad112 = ad114 := (by injection e114)
            replace hx114_0 := hX HB hx114_0
            replace hx114_1 := hX HB hx114_1
            replace hx114_2 := hX HB hx114_2
            have HR114_1 := am hi114_1
            have HC114_1 := am hl114_1
            clear hi114_1 hl114_1
            have HR114_2 := am hi114_2
            have HC114_2 := am hl114_2
            clear hi114_2 hl114_2
            replace p114 := eq_true p114
            replace q114 := eq_true q114
            go_wp2_with (first | (refine bX 11 #[.string (⟨#[]⟩ : ByteArray), .slice none 0 0, .slice none 0 0] 56 ?_; intro gb115 hg w50 hbox hb; replace HO_111000 := am (Kd.R_below (pY67) hb); replace HO_111001 := am (Kd.S_below (Kd.S_elderB (pY71) gb115 (Nat.le_of_eq hg.symm)) hb); have BK115 := am (hbox); have GW115 := am (pY26 : w.heap.size ≤ gb115); have GE115 := am (pY26 : w.heap.size ≤ gb115); replace HB := bS pY43 hb; have NB101_115 := nL pY58 hg; have NB115_101 := nG pY58 hg; replace BK101 := bB pY58 hb; have NB102_115 := nL pY59 hg; have NB115_102 := nG pY59 hg; replace BK102 := bB pY59 hb; have NB110_115 := nL pY61 hg; have NB115_110 := nG pY61 hg; replace BK110 := bB pY61 hb; clear hb hbox hg; have hnb51 := NB115_101.1; have hnc51 := NB101_115.1; have hnb52 := NB115_102.1; have hnc52 := NB102_115.1; have hnb53 := NB115_110.1; have hnc53 := NB110_115.1; obtain ⟨hcz54_0, hcz54_1, hcz54_2, hfz54_0, hfz54_1, hfz54_2⟩ := cz3 BK115))
            go_roundg k1
            case measure => have := HK1.out; omega
            case rel => exact ⟨(wrap64 (x41_1 + 1)), (pY83), H', ⟨by have := HK1.out; omega⟩, ⟨by refine rR ?_; exact Kd.R_mono (Kd.R_far (p := ⟨gb115, 2, none⟩) (Kd.R_far (p := ⟨gb115, 1, none⟩) (Kd.R_far (p := ⟨gb115, 0, none⟩) (Kd.R_types HO_111000.1 BK115.1 (by decide)) (fun _ hk => hk.2) (.string ((rd_T56 l0_1 x41_1).f0))) (fun _ hk => hk.2) (.slice A114_1 ((rd_T56 l0_1 x41_1).f1).length c114_1)) (fun _ hk => hk.2) (.slice A114_2 ((rd_T56 l0_1 x41_1).f2).length c114_2)) (fun _ hk => trivial)⟩, ⟨by refine rS ?_; exact Kd.S_mono (Kd.S_far (p := ⟨gb115, 2, none⟩) (Kd.S_far (p := ⟨gb115, 1, none⟩) (Kd.S_far (p := ⟨gb115, 0, none⟩) (Kd.S_mono HO_111001.1 (fun k_ hk => (⟨hk, hk.2⟩ : _ ∧ k_ ≠ gb115))) (fun _ hk => hk.2) (.string ((rd_T56 l0_1 x41_1).f0))) (fun _ hk => hk.2) (.slice A114_1 ((rd_T56 l0_1 x41_1).f1).length c114_1)) (fun _ hk => hk.2) (.slice A114_2 ((rd_T56 l0_1 x41_1).f2).length c114_2)) (fun _ hk => hk.1.1)⟩, ⟨by (with_reducible repeat (first | refine blk_drewN ?_ _ | refine blk_drew ?_ | refine blk_alloc ?_ _)); refine blk_far ?_ NB101_115.1 _; (with_reducible repeat (first | refine blk_drewN ?_ _ | refine blk_drew ?_ | refine blk_alloc ?_ _)); refine blk_far ?_ NB101_115.1 _; (with_reducible repeat (first | refine blk_drewN ?_ _ | refine blk_drew ?_ | refine blk_alloc ?_ _)); refine blk_far ?_ NB101_115.1 _; (with_reducible repeat (first | refine blk_drewN ?_ _ | refine blk_drew ?_ | refine blk_alloc ?_ _)); exact BK101.1⟩, ⟨by (with_reducible repeat (first | refine blk_drewN ?_ _ | refine blk_drew ?_ | refine blk_alloc ?_ _)); refine blk_far ?_ NB102_115.1 _; (with_reducible repeat (first | refine blk_drewN ?_ _ | refine blk_drew ?_ | refine blk_alloc ?_ _)); refine blk_far ?_ NB102_115.1 _; (with_reducible repeat (first | refine blk_drewN ?_ _ | refine blk_drew ?_ | refine blk_alloc ?_ _)); refine blk_far ?_ NB102_115.1 _; (with_reducible repeat (first | refine blk_drewN ?_ _ | refine blk_drew ?_ | refine blk_alloc ?_ _)); exact BK102.1⟩, ⟨by (with_reducible repeat (first | refine blk_drewN ?_ _ | refine blk_drew ?_ | refine blk_alloc ?_ _)); refine blk_far ?_ NB110_115.1 _; (with_reducible repeat (first | refine blk_drewN ?_ _ | refine blk_drew ?_ | refine blk_alloc ?_ _)); refine blk_far ?_ NB110_115.1 _; (with_reducible repeat (first | refine blk_drewN ?_ _ | refine blk_drew ?_ | refine blk_alloc ?_ _)); refine blk_far ?_ NB110_115.1 _; (with_reducible repeat (first | refine blk_drewN ?_ _ | refine blk_drew ?_ | refine blk_alloc ?_ _)); exact BK110.1⟩, ⟨pY29⟩⟩
           ·rw [if_neg c49] at H
            have c49b0 : (x41_1 == t111) = false := beq_eq_false_iff_ne.mpr c49
            have c49b1 : (x41_1 != t111) = true := bne_iff_ne.mpr c49
            obtain ⟨t116, A55, H⟩ := bd H
            by_cases c56 : t116 = true
            ·subst c56
             replace H := iT H
             simp only [Option.some.injEq, Prod.mk.injEq] at H
             obtain ⟨rfl, rfl, rfl⟩ := H
             have p114 : 0 ≤ (x41_1 : Int) := of_decide_eq_true (pY82)
             have q114 : x41_1 < (l0_1.length : Int) := of_decide_eq_true (pY82)
             obtain ⟨ad114, A114_1, c114_1, A114_2, c114_2, e114, hx114_0, hx114_1, hx114_2, hl114_1, hi114_1, hl114_2, hi114_2⟩ := at_T56 HR0_1.1 x41_1 p114 q114
             obtain rfl : ad112 = ad114 := (by injection e114)
             replace hx114_0 := hX HB hx114_0
             replace hx114_1 := hX HB hx114_1
             replace hx114_2 := hX HB hx114_2
             have HR114_1 := am hi114_1
             have HC114_1 := am hl114_1
             clear hi114_1 hl114_1
             have HR114_2 := am hi114_2
             have HC114_2 := am hl114_2
             clear hi114_2 hl114_2
             replace p114 := eq_true p114
             replace q114 := eq_true q114
             go_wp2_with (first | (refine bX 11 #[.string (⟨#[]⟩ : ByteArray), .slice none 0 0, .slice none 0 0] 56 ?_; intro gb115 hg w57 hbox hb; replace HO_111000 := am (Kd.R_below (pY67) hb); replace HO_111001 := am (Kd.S_below (Kd.S_elderB (pY71) gb115 (Nat.le_of_eq hg.symm)) hb); have BK115 := am (hbox); have GW115 := am (pY26 : w.heap.size ≤ gb115); have GE115 := am (pY26 : w.heap.size ≤ gb115); replace HB := bS pY43 hb; have NB101_115 := nL pY58 hg; have NB115_101 := nG pY58 hg; replace BK101 := bB pY58 hb; have NB102_115 := nL pY59 hg; have NB115_102 := nG pY59 hg; replace BK102 := bB pY59 hb; have NB110_115 := nL pY61 hg; have NB115_110 := nG pY61 hg; replace BK110 := bB pY61 hb; clear hb hbox hg; have hnb58 := NB115_101.1; have hnc58 := NB101_115.1; have hnb59 := NB115_102.1; have hnc59 := NB102_115.1; have hnb60 := NB115_110.1; have hnc60 := NB110_115.1; obtain ⟨hcz61_0, hcz61_1, hcz61_2, hfz61_0, hfz61_1, hfz61_2⟩ := cz3 BK115) | (go_at_call 78; refine cM (impl_common.calls _ _ ((rd_T56 l0_1 x41_1).f1) _ _ l2 true _ (Kd.C_below HR114_1.1 (pY29)) HC114_1.1 (Kd.C_below HR2.1 (pY29)) HC2.1 A55.out) ?_; rintro w62 hb; replace HO_111000 := am (Kd.R_below (by refine rR ?_; exact (Kd.R_mono (Kd.R_far (p := ⟨gb115, 2, none⟩) (Kd.R_far (p := ⟨gb115, 1, none⟩) (Kd.R_far (p := ⟨gb115, 0, none⟩) (Kd.R_types HO_111000.1 BK115.1 (by decide)) (fun _ hk => hk.2) (.string ((rd_T56 l0_1 x41_1).f0))) (fun _ hk => hk.2) (.slice A114_1 ((rd_T56 l0_1 x41_1).f1).length c114_1)) (fun _ hk => hk.2) (.slice A114_2 ((rd_T56 l0_1 x41_1).f2).length c114_2)) (fun _ h_ => h_.1))) hb); replace HO_111001 := am (Kd.S_below (by refine rS ?_; exact (Kd.S_mono (Kd.S_far (p := ⟨gb115, 2, none⟩) (Kd.S_far (p := ⟨gb115, 1, none⟩) (Kd.S_far (p := ⟨gb115, 0, none⟩) (Kd.S_mono HO_111001.1 (fun k_ hk => (⟨hk, hk.2⟩ : _ ∧ k_ ≠ gb115))) (fun _ hk => hk.2) (.string ((rd_T56 l0_1 x41_1).f0))) (fun _ hk => hk.2) (.slice A114_1 ((rd_T56 l0_1 x41_1).f1).length c114_1)) (fun _ hk => hk.2) (.slice A114_2 ((rd_T56 l0_1 x41_1).f2).length c114_2)) (fun _ h_ => h_.1))) hb); replace BK101 := am (blk_below (g := gb101) (o := .cells #[.slice A0_0 l0_0.length c0_0, .slice (some ad112) l0_1.length c0_1] 31 (0, 0)) (by (with_reducible repeat (first | refine blk_drewN ?_ _ | refine blk_drew ?_ | refine blk_alloc ?_ _)); refine blk_far ?_ NB101_115.1 _; (with_reducible repeat (first | refine blk_drewN ?_ _ | refine blk_drew ?_ | refine blk_alloc ?_ _)); refine blk_far ?_ NB101_115.1 _; (with_reducible repeat (first | refine blk_drewN ?_ _ | refine blk_drew ?_ | refine blk_alloc ?_ _)); refine blk_far ?_ NB101_115.1 _; (with_reducible repeat (first | refine blk_drewN ?_ _ | refine blk_drew ?_ | refine blk_alloc ?_ _)); exact BK101.1) hb); replace BK102 := am (blk_below (g := gb102) (o := .cells #[.slice none 0 0, .slice none 0 0] 31 (0, 0)) (by (with_reducible repeat (first | refine blk_drewN ?_ _ | refine blk_drew ?_ | refine blk_alloc ?_ _)); refine blk_far ?_ NB102_115.1 _; (with_reducible repeat (first | refine blk_drewN ?_ _ | refine blk_drew ?_ | refine blk_alloc ?_ _)); refine blk_far ?_ NB102_115.1 _; (with_reducible repeat (first | refine blk_drewN ?_ _ | refine blk_drew ?_ | refine blk_alloc ?_ _)); refine blk_far ?_ NB102_115.1 _; (with_reducible repeat (first | refine blk_drewN ?_ _ | refine blk_drew ?_ | refine blk_alloc ?_ _)); exact BK102.1) hb); replace BK110 := am (blk_below (g := gb110) (o := .cells #[.slice Ao38 t104.length co38, .slice Ao42 t107.length co42] 31 (0, 0)) (by (with_reducible repeat (first | refine blk_drewN ?_ _ | refine blk_drew ?_ | refine blk_alloc ?_ _)); refine blk_far ?_ NB110_115.1 _; (with_reducible repeat (first | refine blk_drewN ?_ _ | refine blk_drew ?_ | refine blk_alloc ?_ _)); refine blk_far ?_ NB110_115.1 _; (with_reducible repeat (first | refine blk_drewN ?_ _ | refine blk_drew ?_ | refine blk_alloc ?_ _)); refine blk_far ?_ NB110_115.1 _; (with_reducible repeat (first | refine blk_drewN ?_ _ | refine blk_drew ?_ | refine blk_alloc ?_ _)); exact BK110.1) hb); replace BK115 := am (blk_below (g := gb115) (o := .cells #[.string ((rd_T56 l0_1 x41_1).f0), .slice A114_1 ((rd_T56 l0_1 x41_1).f1).length c114_1, .slice A114_2 ((rd_T56 l0_1 x41_1).f2).length c114_2] 56 (0, 0)) (pY3) hb); replace HB := bS pY29 hb; (try clear hb); (try clear hb2); (try clear hk); (try clear hi); have hnb63 := NB110_101.1; have hnc63 := NB101_110.1; have hnb64 := NB110_102.1; have hnc64 := NB102_110.1; obtain ⟨hcz65_0, hcz65_1, hfz65_0, hfz65_1⟩ := cz2 BK110; have hnb66 := NB102_101.1; have hnc66 := NB101_102.1; obtain ⟨hcz67_0, hcz67_1, hfz67_0, hfz67_1⟩ := cz2 BK102))
             refine bodyPost_ret (results_ct rfl _ _ gb102 31 #[.slice Ao38 t104.length co38, .slice Ao42 t107.length co42] (0, 0) _ rfl (by (with_reducible repeat (first | refine blk_drewN ?_ _ | refine blk_drew ?_ | refine blk_alloc ?_ _)); refine blk_put (cs := #[.slice Ao38 t104.length co38, .slice none 0 0]) ?_ 1 _ rfl; (with_reducible repeat (first | refine blk_drewN ?_ _ | refine blk_drew ?_ | refine blk_alloc ?_ _)); refine blk_put (cs := #[.slice none 0 0, .slice none 0 0]) ?_ 0 _ rfl; (with_reducible repeat (first | refine blk_drewN ?_ _ | refine blk_drew ?_ | refine blk_alloc ?_ _)); exact BK102.1) Try.underlying31 rfl (by kernel_rfl)) rfl ?_
             exact ⟨_, _, by first | rfl | (simp [errW_none, errW_some] <;> rfl) | (simp [*, errW_none, errW_some] <;> rfl), by refine rR ?_; exact Kd.R_mono (Kd.R_far (p := ⟨gb102, 1, none⟩) (Kd.R_far (p := ⟨gb102, 0, none⟩) (Kd.R_types HO_111000.1 BK102.1 (by decide)) (fun _ hk => hk.2) (.slice Ao38 t104.length co38)) (fun _ hk => hk.2) (.slice Ao42 t107.length co42)) (fun _ hk => trivial), by refine rS ?_; exact Kd.S_mono (Kd.S_far (p := ⟨gb102, 1, none⟩) (Kd.S_far (p := ⟨gb102, 0, none⟩) (Kd.S_types HO_111001.1 BK102.1 (by decide)) (fun _ hk => hk.2) (.slice Ao38 t104.length co38)) (fun _ hk => hk.2) (.slice Ao42 t107.length co42)) (fun _ hk => hk.1.1), pY29⟩
            ·replace c56 := Bool.eq_false_iff.mpr c56
             subst c56
             replace H := iF H
             have H' := am H
             clear H
             have p114 : 0 ≤ (x41_1 : Int) := of_decide_eq_true (pY82)
             have q114 : x41_1 < (l0_1.length : Int) := of_decide_eq_true (pY82)
             obtain ⟨ad114, A114_1, c114_1, A114_2, c114_2, e114, hx114_0, hx114_1, hx114_2, hl114_1, hi114_1, hl114_2, hi114_2⟩ := at_T56 HR0_1.1 x41_1 p114 q114
             obtain rfl : ad112 = ad114 := (by injection e114)
             replace hx114_0 := hX HB hx114_0
             replace hx114_1 := hX HB hx114_1
             replace hx114_2 := hX HB hx114_2
             have HR114_1 := am hi114_1
             have HC114_1 := am hl114_1
             clear hi114_1 hl114_1
             have HR114_2 := am hi114_2
             have HC114_2 := am hl114_2
             clear hi114_2 hl114_2
             replace p114 := eq_true p114
             replace q114 := eq_true q114
             go_wp2_with (first | (refine bX 11 #[.string (⟨#[]⟩ : ByteArray), .slice none 0 0, .slice none 0 0] 56 ?_; intro gb115 hg w68 hbox hb; replace HO_111000 := am (Kd.R_below (pY67) hb); replace HO_111001 := am (Kd.S_below (Kd.S_elderB (pY71) gb115 (Nat.le_of_eq hg.symm)) hb); have BK115 := am (hbox); have GW115 := am (pY26 : w.heap.size ≤ gb115); have GE115 := am (pY26 : w.heap.size ≤ gb115); replace HB := bS pY43 hb; have NB101_115 := nL pY58 hg; have NB115_101 := nG pY58 hg; replace BK101 := bB pY58 hb; have NB102_115 := nL pY59 hg; have NB115_102 := nG pY59 hg; replace BK102 := bB pY59 hb; have NB110_115 := nL pY61 hg; have NB115_110 := nG pY61 hg; replace BK110 := bB pY61 hb; clear hb hbox hg; have hnb69 := NB115_101.1; have hnc69 := NB101_115.1; have hnb70 := NB115_102.1; have hnc70 := NB102_115.1; have hnb71 := NB115_110.1; have hnc71 := NB110_115.1; obtain ⟨hcz72_0, hcz72_1, hcz72_2, hfz72_0, hfz72_1, hfz72_2⟩ := cz3 BK115) | (go_at_call 78; refine cM (impl_common.calls _ _ ((rd_T56 l0_1 x41_1).f1) _ _ l2 false _ (Kd.C_below HR114_1.1 (pY29)) HC114_1.1 (Kd.C_below HR2.1 (pY29)) HC2.1 A55.out) ?_; rintro w73 hb; replace HO_111000 := am (Kd.R_below (by refine rR ?_; exact (Kd.R_mono (Kd.R_far (p := ⟨gb115, 2, none⟩) (Kd.R_far (p := ⟨gb115, 1, none⟩) (Kd.R_far (p := ⟨gb115, 0, none⟩) (Kd.R_types HO_111000.1 BK115.1 (by decide)) (fun _ hk => hk.2) (.string ((rd_T56 l0_1 x41_1).f0))) (fun _ hk => hk.2) (.slice A114_1 ((rd_T56 l0_1 x41_1).f1).length c114_1)) (fun _ hk => hk.2) (.slice A114_2 ((rd_T56 l0_1 x41_1).f2).length c114_2)) (fun _ h_ => h_.1))) hb); replace HO_111001 := am (Kd.S_below (by refine rS ?_; exact (Kd.S_mono (Kd.S_far (p := ⟨gb115, 2, none⟩) (Kd.S_far (p := ⟨gb115, 1, none⟩) (Kd.S_far (p := ⟨gb115, 0, none⟩) (Kd.S_mono HO_111001.1 (fun k_ hk => (⟨hk, hk.2⟩ : _ ∧ k_ ≠ gb115))) (fun _ hk => hk.2) (.string ((rd_T56 l0_1 x41_1).f0))) (fun _ hk => hk.2) (.slice A114_1 ((rd_T56 l0_1 x41_1).f1).length c114_1)) (fun _ hk => hk.2) (.slice A114_2 ((rd_T56 l0_1 x41_1).f2).length c114_2)) (fun _ h_ => h_.1))) hb); replace BK101 := am (blk_below (g := gb101) (o := .cells #[.slice A0_0 l0_0.length c0_0, .slice (some ad112) l0_1.length c0_1] 31 (0, 0)) (by (with_reducible repeat (first | refine blk_drewN ?_ _ | refine blk_drew ?_ | refine blk_alloc ?_ _)); refine blk_far ?_ NB101_115.1 _; (with_reducible repeat (first | refine blk_drewN ?_ _ | refine blk_drew ?_ | refine blk_alloc ?_ _)); refine blk_far ?_ NB101_115.1 _; (with_reducible repeat (first | refine blk_drewN ?_ _ | refine blk_drew ?_ | refine blk_alloc ?_ _)); refine blk_far ?_ NB101_115.1 _; (with_reducible repeat (first | refine blk_drewN ?_ _ | refine blk_drew ?_ | refine blk_alloc ?_ _)); exact BK101.1) hb); replace BK102 := am (blk_below (g := gb102) (o := .cells #[.slice none 0 0, .slice none 0 0] 31 (0, 0)) (by (with_reducible repeat (first | refine blk_drewN ?_ _ | refine blk_drew ?_ | refine blk_alloc ?_ _)); refine blk_far ?_ NB102_115.1 _; (with_reducible repeat (first | refine blk_drewN ?_ _ | refine blk_drew ?_ | refine blk_alloc ?_ _)); refine blk_far ?_ NB102_115.1 _; (with_reducible repeat (first | refine blk_drewN ?_ _ | refine blk_drew ?_ | refine blk_alloc ?_ _)); refine blk_far ?_ NB102_115.1 _; (with_reducible repeat (first | refine blk_drewN ?_ _ | refine blk_drew ?_ | refine blk_alloc ?_ _)); exact BK102.1) hb); replace BK110 := am (blk_below (g := gb110) (o := .cells #[.slice Ao38 t104.length co38, .slice Ao42 t107.length co42] 31 (0, 0)) (by (with_reducible repeat (first | refine blk_drewN ?_ _ | refine blk_drew ?_ | refine blk_alloc ?_ _)); refine blk_far ?_ NB110_115.1 _; (with_reducible repeat (first | refine blk_drewN ?_ _ | refine blk_drew ?_ | refine blk_alloc ?_ _)); refine blk_far ?_ NB110_115.1 _; (with_reducible repeat (first | refine blk_drewN ?_ _ | refine blk_drew ?_ | refine blk_alloc ?_ _)); refine blk_far ?_ NB110_115.1 _; (with_reducible repeat (first | refine blk_drewN ?_ _ | refine blk_drew ?_ | refine blk_alloc ?_ _)); exact BK110.1) hb); replace BK115 := am (blk_below (g := gb115) (o := .cells #[.string ((rd_T56 l0_1 x41_1).f0), .slice A114_1 ((rd_T56 l0_1 x41_1).f1).length c114_1, .slice A114_2 ((rd_T56 l0_1 x41_1).f2).length c114_2] 56 (0, 0)) (pY3) hb); replace HB := bS pY29 hb; (try clear hb); (try clear hb2); (try clear hk); (try clear hi)))
             go_roundg k1
             case measure => have := HK1.out; omega
             case rel => exact ⟨(wrap64 (x41_1 + 1)), (pY83), H', ⟨by have := HK1.out; omega⟩, ⟨rR HO_111000.1⟩, ⟨by refine rS ?_; exact Kd.S_mono HO_111001.1 (fun _ hk => hk.1)⟩, ⟨rB BK101.1⟩, ⟨rB BK102.1⟩, ⟨rB BK110.1⟩, ⟨pY29⟩⟩
          ·rw [if_neg c48] at H
           exact absurd H (by simp)
         ·rw [if_neg c47] at H
          exact absurd H (by simp)
        ·rw [if_neg c46] at H
         have c46b0 : decide (x41_1 < (l0_1.length : Int)) = false := decide_eq_false c46
         clear c46
         obtain ⟨⟨t117, t120⟩, A74, H⟩ := bd H
         dsimp only at H
         by_cases c75 : 0 ≤ t111
         ·rw [if_pos c75] at H
          have c75b0 : decide (0 ≤ t111) = true := decide_eq_true c75
          clear c75
          by_cases c76 : t111 < (l0_1.length : Int)
          ·rw [if_pos c76] at H
           have c76b0 : decide (t111 < (l0_1.length : Int)) = true := decide_eq_true c76
           clear c76
           obtain ⟨t125, A77, H⟩ := bd H
           by_cases c78 : t125.length + l2.length < 8796093022208
           ·rw [if_pos c78] at H
            have LMc78 := am c78
            clear c78
            first | (replace H := bZ (t125 ++ l2) H; obtain ⟨y128, Ny128, H⟩ := H) | (obtain ⟨y128, Ny128⟩ := yv (t125 ++ l2); rw [← Ny128.1] at H)
            obtain ⟨t131, A79, H⟩ := bd H
            obtain ⟨t132, A80, H⟩ := bd H
            by_cases c81 : t111 < (t120.length : Int)
            ·rw [if_pos c81] at H
             have c81b0 : decide (t111 < (t120.length : Int)) = true := decide_eq_true c81
             clear c81
             obtain ⟨y135, Ny135, H⟩ := bY H
             obtain ⟨t136, A83, H⟩ := bd H
             by_cases c84 : t136 = true
             ·subst c84
              replace H := iT H
              obtain ⟨t137, A85, H⟩ := bd H
              by_cases c86 : t137 = true
              ·subst c86
               replace H := iT H
               simp only [Option.some.injEq, Prod.mk.injEq] at H
               obtain ⟨rfl, rfl, rfl⟩ := H
               have hnb87 := NB101_102.1
               have hnc87 := NB102_101.1
               have hnb88 := NB101_110.1
               have hnc88 := NB110_101.1
               obtain ⟨hcz89_0, hcz89_1, hfz89_0, hfz89_1⟩ := cz2 BK101
               try go_wp2_with (first | ((with_reducible refine gate_callee (f := 90) rfl ?_); refine goesL_ (some 58) rfl rfl Try.func90 (by kernel_rfl) rfl #[.agg #[.slice A0_0 l0_0.length c0_0, .slice (some ad112) l0_1.length c0_1]] rfl (pY54) ?_; (with_reducible refine (impl_copyBook.calls k1 _ _ l0_0 _ _ l0_1 t117 t120 _ ?side1 ?side2 ?side3 ?side4 A74.out).mono ?_); (case side1 => exact pC (Kd.C_below HR0_0.1 HB.1)); (case side2 => exact HC0_0.1); (case side3 => exact pC (Kd.C_below HR0_1.1 HB.1)); (case side4 => exact HC0_1.1); rintro e w90 ⟨v118, v121, rfl, ho0, ho1, hb⟩; refine ⟨_, rfl, ?_⟩; have HO119 := am (Kd.R_lower (Kd.R_new' ho0 (Kd.R_lt (pY67))) (below_size (pY43))); have HO122 := am (Kd.S_lower (Kd.S_new' (Kd.S_new' ho1 (Kd.R_lt (pY67))) (Kd.S_lt (pY71))) (below_size (pY43))); replace HO_111000 := am (Kd.R_elder' (pY67) (Kd.R_base ho0) hb); replace HO_111001 := am (Kd.S_mono (Kd.S_told (Kd.S_told (Kd.S_old (pY71) hb) (Kd.R_base ho0)) (Kd.S_base ho1)) (fun _ h_ => h_.1)); replace BK101 := bB pY58 hb; replace BK102 := bB pY59 hb; replace BK110 := bB pY61 hb; replace HB := bS pY43 hb; (try clear hb); (try clear hb2); (try clear hk); (try clear hi); (try clear ho0); (try clear ho1)) | (refine bX 12 #[.slice none 0 0, .slice none 0 0] 31 ?_; intro gb123 hg w91 hbox hb; replace HO_111000 := am (Kd.R_below (pY67) hb); replace HO_111001 := am (Kd.S_below (pY71) hb); replace HO119 := am (Kd.R_below (pY76) hb); replace HO122 := am (Kd.S_below (pY77) hb); have BK123 := am (hbox); have GW123 := am (pY26 : w.heap.size ≤ gb123); have GE123 := am (pY26 : w.heap.size ≤ gb123); replace HB := bS pY43 hb; have NB101_123 := nL pY58 hg; have NB123_101 := nG pY58 hg; replace BK101 := bB pY58 hb; have NB102_123 := nL pY59 hg; have NB123_102 := nG pY59 hg; replace BK102 := bB pY59 hb; have NB110_123 := nL pY61 hg; have NB123_110 := nG pY61 hg; replace BK110 := bB pY61 hb; clear hb hbox hg; obtain ⟨Ao92, co92, eo92⟩ := Kd.R_slice HO119.1; subst eo92; have hnb93 := NB123_101.1; have hnc93 := NB101_123.1; have hnb94 := NB123_102.1; have hnc94 := NB102_123.1; have hnb95 := NB123_110.1; have hnc95 := NB110_123.1; obtain ⟨hcz96_0, hcz96_1, hfz96_0, hfz96_1⟩ := cz2 BK123; obtain ⟨Ao97, co97, eo97⟩ := Kd.S_slice HO122.1; subst eo97; obtain ⟨hcz98_0, hcz98_1, hfz98_0, hfz98_1⟩ := cz2 BK101; have p124 : 0 ≤ (t111 : Int) := of_decide_eq_true (pY82); have q124 : t111 < (l0_1.length : Int) := of_decide_eq_true (pY82); obtain ⟨ad124, A124_1, c124_1, A124_2, c124_2, e124, hx124_0, hx124_1, hx124_2, hl124_1, hi124_1, hl124_2, hi124_2⟩ := at_T56 HR0_1.1 t111 p124 q124; obtain rfl : ad112 = ad124 := (by injection e124); have hn124_0 : ad112.block ≠ gb123 := Nat.ne_of_lt (Nat.lt_of_lt_of_le (by have := World.block_lt_of_cell? _ _ hx124_0; first | rwa [add_block] at this | exact this) GW123.out); have hn124_1 : ad112.block ≠ gb123 := Nat.ne_of_lt (Nat.lt_of_lt_of_le (by have := World.block_lt_of_cell? _ _ hx124_0; first | rwa [add_block] at this | exact this) GW123.out); replace hx124_0 := hX HB hx124_0; replace hx124_1 := hX HB hx124_1; replace hx124_2 := hX HB hx124_2; have HR124_1 := am hi124_1; have HC124_1 := am hl124_1; clear hi124_1 hl124_1; have HR124_2 := am hi124_2; have HC124_2 := am hl124_2; clear hi124_2 hl124_2; replace hx124_0 := (cell_far (p := ⟨gb123, 0, none⟩) (pY56) (.slice Ao92 t117.length co92)).trans hx124_0; replace hx124_1 := (cell_far (p := ⟨gb123, 0, none⟩) (pY56) (.slice Ao92 t117.length co92)).trans hx124_1; replace hx124_2 := (cell_far (p := ⟨gb123, 0, none⟩) (pY56) (.slice Ao92 t117.length co92)).trans hx124_2; replace hx124_0 := (cell_far (p := ⟨gb123, 1, none⟩) (pY57) (.slice Ao97 t120.length co97)).trans hx124_0; replace hx124_1 := (cell_far (p := ⟨gb123, 1, none⟩) (pY57) (.slice Ao97 t120.length co97)).trans hx124_1; replace hx124_2 := (cell_far (p := ⟨gb123, 1, none⟩) (pY57) (.slice Ao97 t120.length co97)).trans hx124_2; clear hn124_0; clear hn124_1; replace p124 := eq_true p124; replace q124 := eq_true q124) | ((with_reducible refine gate_callee (f := 94) rfl ?_); refine goesL_ (some 65) rfl rfl Try.func94 (by kernel_rfl) rfl #[.slice A124_1 ((rd_T56 l0_1 t111).f1).length c124_1] rfl (pY54) ?_; (with_reducible refine (slices_Clone_string_string.calls _ _ ((rd_T56 l0_1 t111).f1) t125 _ ?side1 ?side2 A77.out).mono ?_); (case side1 => exact Kd.C_below HR124_1.1 (pY30)); (case side2 => exact HC124_1.1); rintro e w99 ⟨v126, rfl, ho0, hb⟩; refine ⟨_, rfl, ?_⟩; replace HO_111001 := am (Kd.S_elder' (by refine rS ?_; exact (Kd.S_mono (Kd.S_far (p := ⟨gb123, 1, none⟩) (Kd.S_far (p := ⟨gb123, 0, none⟩) (Kd.S_types HO_111001.1 BK123.1 (by decide)) (fun _ hk => hk.2) (.slice Ao92 t117.length co92)) (fun _ hk => hk.2) (.slice Ao97 t120.length co97)) (fun _ h_ => h_.1))) (Kd.R_base ho0) hb); replace HO122 := am (Kd.S_elder' (by refine rS ?_; exact (Kd.S_mono (Kd.S_far (p := ⟨gb123, 1, none⟩) (Kd.S_far (p := ⟨gb123, 0, none⟩) (Kd.S_types HO122.1 BK123.1 (by decide)) (fun _ hk => hk.2) (.slice Ao92 t117.length co92)) (fun _ hk => hk.2) (.slice Ao97 t120.length co97)) (fun _ h_ => h_.1))) (Kd.R_base ho0) hb); have HO127 := am (Kd.R_lower (Kd.R_new' (Kd.R_new' ho0 (Kd.R_lt (by refine rR ?_; exact (Kd.R_mono (Kd.R_far (p := ⟨gb123, 1, none⟩) (Kd.R_far (p := ⟨gb123, 0, none⟩) (Kd.R_types HO_111000.1 BK123.1 (by decide)) (fun _ hk => hk.2) (.slice Ao92 t117.length co92)) (fun _ hk => hk.2) (.slice Ao97 t120.length co97)) (fun _ h_ => h_.1))))) (Kd.R_lt (by refine rR ?_; exact (Kd.R_mono (Kd.R_far (p := ⟨gb123, 1, none⟩) (Kd.R_far (p := ⟨gb123, 0, none⟩) (Kd.R_types HO119.1 BK123.1 (by decide)) (fun _ hk => hk.2) (.slice Ao92 t117.length co92)) (fun _ hk => hk.2) (.slice Ao97 t120.length co97)) (fun _ h_ => h_.1))))) (below_size (pY30))); replace HO_111000 := am (Kd.R_elder' (by refine rR ?_; exact (Kd.R_mono (Kd.R_far (p := ⟨gb123, 1, none⟩) (Kd.R_far (p := ⟨gb123, 0, none⟩) (Kd.R_types HO_111000.1 BK123.1 (by decide)) (fun _ hk => hk.2) (.slice Ao92 t117.length co92)) (fun _ hk => hk.2) (.slice Ao97 t120.length co97)) (fun _ h_ => h_.1))) (Kd.R_base ho0) hb); replace HO119 := am (Kd.R_elder' (by refine rR ?_; exact (Kd.R_mono (Kd.R_far (p := ⟨gb123, 1, none⟩) (Kd.R_far (p := ⟨gb123, 0, none⟩) (Kd.R_types HO119.1 BK123.1 (by decide)) (fun _ hk => hk.2) (.slice Ao92 t117.length co92)) (fun _ hk => hk.2) (.slice Ao97 t120.length co97)) (fun _ h_ => h_.1))) (Kd.R_base ho0) hb); replace BK101 := am (blk_below (g := gb101) (o := .cells #[.slice A0_0 l0_0.length c0_0, .slice (some ad112) l0_1.length c0_1] 31 (0, 0)) (pY12) hb); replace BK102 := am (blk_below (g := gb102) (o := .cells #[.slice none 0 0, .slice none 0 0] 31 (0, 0)) (pY13) hb); replace BK110 := am (blk_below (g := gb110) (o := .cells #[.slice Ao38 t104.length co38, .slice Ao42 t107.length co42] 31 (0, 0)) (pY14) hb); replace BK123 := am (blk_below (g := gb123) (o := .cells #[.slice Ao92 t117.length co92, .slice Ao97 t120.length co97] 31 (0, 0)) (by (with_reducible repeat (first | refine blk_drewN ?_ _ | refine blk_drew ?_ | refine blk_alloc ?_ _)); refine blk_put (cs := #[.slice Ao92 t117.length co92, .slice none 0 0]) ?_ 1 _ rfl; (with_reducible repeat (first | refine blk_drewN ?_ _ | refine blk_drew ?_ | refine blk_alloc ?_ _)); refine blk_put (cs := #[.slice none 0 0, .slice none 0 0]) ?_ 0 _ rfl; (with_reducible repeat (first | refine blk_drewN ?_ _ | refine blk_drew ?_ | refine blk_alloc ?_ _)); exact BK123.1) hb); replace HB := bS pY30 hb; (try clear hb); (try clear hb2); (try clear hk); (try clear hi); (try clear ho0)) | ((with_reducible refine gate_builtin (b := .append) (xs := #[.tmp 65, .tmp 66]) rfl ?_); at_builtin; refine Kd.R_append_rows Kd.string (w0 := w) w.heap.size rfl (.tmp 65) (.tmp 66) 23 9 (.string ⟨#[]⟩) 16 rfl Try.underlying23 info9 rfl (by decide) (by omega) v126 t125 l2 _ _ _ (fun k_ => some k_ ≠ (.slice Ao38 t104.length co38 : Value).ownBlock ∧ some k_ ≠ (.slice Ao92 t117.length co92 : Value).ownBlock) (fun _ => False) rfl rfl ?aO ?aR (fun _ _ h => h) (fun _ h => h.elim) ?aF ?aB ?aS ?aL ?_; (case aR => repeat (first | exact (Kd.C_below HR2.1 HB.1) | (with_reducible refine Kd.C_alloc ?_ _) | (with_reducible refine Kd.C_drewN ?_ _) | (with_reducible refine Kd.C_drew ?_))); (case aB => exact (pY30)); (case aF => exact (fun k_ hk => ⟨Kd.fresh' (Kd.R_lt (pY67)) k_ hk, Kd.fresh' (Kd.R_lt (pY76)) k_ hk⟩)); (case aO => exact (by refine rR ?_; exact Kd.R_mono HO127.1 (fun _ hk => ⟨hk.1.2, hk.2⟩))); (case aS => exact (below_size (pY30))); (case aL => have := LMc78.out; omega); intro v129 w100 ho hb hg hat; rw [← Ny128.out] at ho; replace HO_111000 := am (Kd.R_after (ok := (fun k_ => some k_ ≠ (.slice Ao92 t117.length co92 : Value).ownBlock)) (by refine rR ?_; exact Kd.R_mono HO_111000.1 (fun _ hk => ⟨hk.1.2, hk.2⟩)) hg hat); replace HO_111001 := am (Kd.S_after (ok := (fun k_ => some k_ ≠ (.slice Ao38 t104.length co38 : Value).ownBlock ∧ some k_ ≠ (.slice Ao92 t117.length co92 : Value).ownBlock ∧ some k_ ≠ (.slice Ao97 t120.length co97 : Value).ownBlock)) (by refine rS ?_; exact Kd.S_mono HO_111001.1 (fun _ hk => ⟨⟨hk.1.1.1, ⟨hk.1.1.2, hk.1.2⟩⟩, hk.2⟩)) hg hat); replace BK101 := am (blk_grown (g := gb101) (o := .cells #[.slice A0_0 l0_0.length c0_0, .slice (some ad112) l0_1.length c0_1] 31 (0, 0)) (pY58) hg (Kd.R_ne HO127.1 BK101.1 (by decide))); replace BK102 := am (blk_grown (g := gb102) (o := .cells #[.slice none 0 0, .slice none 0 0] 31 (0, 0)) (pY59) hg (Kd.R_ne HO127.1 BK102.1 (by decide))); replace BK110 := am (blk_grown (g := gb110) (o := .cells #[.slice Ao38 t104.length co38, .slice Ao42 t107.length co42] 31 (0, 0)) (pY61) hg (Kd.R_ne HO127.1 BK110.1 (by decide))); replace HO119 := am (Kd.R_after (ok := (fun k_ => some k_ ≠ (.slice Ao38 t104.length co38 : Value).ownBlock)) (by refine rR ?_; exact Kd.R_mono HO119.1 (fun _ hk => ⟨hk.1.2, hk.2⟩)) hg hat); replace HO122 := am (Kd.S_after (ok := (fun k_ => some k_ ≠ (.slice Ao38 t104.length co38 : Value).ownBlock ∧ some k_ ≠ (.slice Ao42 t107.length co42 : Value).ownBlock ∧ some k_ ≠ (.slice Ao92 t117.length co92 : Value).ownBlock)) (by refine rS ?_; exact Kd.S_mono HO122.1 (fun _ hk => ⟨⟨hk.1.1.2, ⟨hk.1.2, hk.1.1.1⟩⟩, hk.2⟩)) hg hat); replace BK123 := am (blk_grown (g := gb123) (o := .cells #[.slice Ao92 t117.length co92, .slice Ao97 t120.length co97] 31 (0, 0)) (pY64) hg (Kd.R_ne HO127.1 BK123.1 (by decide))); replace HB := am (hb); have HO130 := am (ho); clear HO127; clear ho hb hg hat; obtain ⟨Ao101, co101, eo101⟩ := Kd.R_slice HO130.1; subst eo101) | ((with_reducible refine gate_callee (f := 107) rfl ?_); refine goesL_ (some 69) rfl rfl Try.func107 (by kernel_rfl) rfl #[.slice Ao101 y128.length co101] rfl (pY54) ?_; (with_reducible refine (sort_Strings.calls (fun k_ => some k_ = (.slice Ao101 y128.length co101 : Value).ownBlock) (.slice Ao101 y128.length co101) y128 t131 w _ ?side1 ?side2 A79.out).mono ?_); (case side1 => repeat (first | (with_reducible first | exact HB.1 | apply below_alloc | apply pw_below_drewN | apply below_drew1 | refine below_set ?_ GE101.1 | refine below_set ?_ GE102.1 | refine below_set ?_ GE110.1 | refine below_set ?_ GE123.1) | exact HB.1)); (case side2 => exact Kd.R_tight rfl HO130.1); rintro e w102 ⟨rfl, hy0, hb, hkp⟩; refine ⟨_, rfl, ?_⟩; replace HO_111000 := am (Kd.R_mono (ok' := fun k_ => some k_ ≠ (.slice Ao92 t117.length co92 : Value).ownBlock ∧ some k_ ≠ (.slice Ao101 y128.length co101 : Value).ownBlock) (Kd.R_keptB (HO_111000.1) hkp (fun k_ hk_ hs_ => (hk_.2) hs_)) (fun k_ hk_ => ⟨hk_.1.1, hk_.1.2⟩)); replace HO_111001 := am (Kd.S_mono (ok' := fun k_ => some k_ ≠ (.slice Ao38 t104.length co38 : Value).ownBlock ∧ some k_ ≠ (.slice Ao92 t117.length co92 : Value).ownBlock ∧ some k_ ≠ (.slice Ao97 t120.length co97 : Value).ownBlock ∧ some k_ ≠ (.slice Ao101 y128.length co101 : Value).ownBlock) (Kd.S_keptB (HO_111001.1) hkp (fun k_ hk_ hs_ => (hk_.2) hs_)) (fun k_ hk_ => ⟨hk_.1.1.1, hk_.1.1.2.1, hk_.1.1.2.2, hk_.1.2⟩)); replace BK101 := am (blk_kept (pY58) hkp (fun hs_ => (fun e_ => (Kd.R_ne HO130.1 BK101.1 (by decide)) e_) hs_)); replace BK102 := am (blk_kept (pY59) hkp (fun hs_ => (fun e_ => (Kd.R_ne HO130.1 BK102.1 (by decide)) e_) hs_)); replace BK110 := am (blk_kept (pY61) hkp (fun hs_ => (fun e_ => (Kd.R_ne HO130.1 BK110.1 (by decide)) e_) hs_)); replace HO119 := am (Kd.R_mono (ok' := fun k_ => some k_ ≠ (.slice Ao38 t104.length co38 : Value).ownBlock ∧ some k_ ≠ (.slice Ao101 y128.length co101 : Value).ownBlock) (Kd.R_keptB (HO119.1) hkp (fun k_ hk_ hs_ => (hk_.2) hs_)) (fun k_ hk_ => ⟨hk_.1.1, hk_.1.2⟩)); replace HO122 := am (Kd.S_mono (ok' := fun k_ => some k_ ≠ (.slice Ao38 t104.length co38 : Value).ownBlock ∧ some k_ ≠ (.slice Ao42 t107.length co42 : Value).ownBlock ∧ some k_ ≠ (.slice Ao92 t117.length co92 : Value).ownBlock ∧ some k_ ≠ (.slice Ao101 y128.length co101 : Value).ownBlock) (Kd.S_keptB (HO122.1) hkp (fun k_ hk_ hs_ => (hk_.2) hs_)) (fun k_ hk_ => ⟨hk_.1.1.1, hk_.1.1.2.1, hk_.1.1.2.2, hk_.1.2⟩)); replace BK123 := am (blk_kept (pY64) hkp (fun hs_ => (fun e_ => (Kd.R_ne HO130.1 BK123.1 (by decide)) e_) hs_)); replace HO130 := am (Kd.R_reok rfl hy0 (fun k_ e_ => HO130.1.1 k_ e_)); replace HB := am (hb); (try clear hb); (try clear hkp); (try clear hy0)))
               replace HO_111000 := am (Kd.R_drew HO_111000.1)
               replace HO_111001 := am (Kd.S_drew HO_111001.1)
               replace HO119 := am (Kd.R_drew HO119.1)
               replace HO122 := am (Kd.S_drew HO122.1)
               replace HO130 := am (Kd.R_drew HO130.1)
               replace BK101 := am (blk_drew BK101.1)
               replace BK102 := am (blk_drew BK102.1)
               replace BK110 := am (blk_drew BK110.1)
               replace BK123 := am (blk_drew BK123.1)
               replace HB := am (below_drew1 HB.1)
               refine sT [7] 8 (uA2 BK123) (fun hHeld => ?_); refine with_tabW impl_ShareAsk.tab18 impl_ShareAsk.bits18 (fun HT_ HW_ => ?_)
               generalize w102.drew = w103 at HO_111000 HO_111001 HO119 HO122 HO130 BK101 BK102 BK110 BK123 HB hHeld ⊢
               refine pU 0 (some 70) ?_
               refine pU 2 (some 72) ?_
               refine pU 3 (some 73) ?_
               refine tK2 1 (some 71) ?_
               refine oN 4 (some 74) fun K hK => ?_
               refine goes_ Try.func108 (by kernel_rfl) rfl #[.slice Ao101 y128.length co101] (by rfl) rfl rfl (pY54) ?_
               with_reducible refine (slices_Compact_string_string.calls (fun k_ => some k_ = (.slice Ao101 y128.length co101 : Value).ownBlock) (.slice Ao101 y128.length co101) t131 t132 w _ ?side1 ?side2 A80.out).mono ?_
               (case side1 => repeat (first | (with_reducible first | exact HB.1 | apply below_alloc | apply pw_below_drewN | apply below_drew1 | refine below_set ?_ GE101.1 | refine below_set ?_ GE102.1 | refine below_set ?_ GE110.1 | refine below_set ?_ GE123.1) | exact HB.1))
               (case side2 => exact Kd.R_tight rfl HO130.1)
               rintro e w104 ⟨v133, rfl, ho0, hb, hkp⟩
               refine ⟨_, rfl, ?_⟩
               replace HO_111001 := am (Kd.S_mono (ok' := fun k_ => some k_ ≠ (.slice Ao38 t104.length co38 : Value).ownBlock ∧ some k_ ≠ (.slice Ao92 t117.length co92 : Value).ownBlock ∧ some k_ ≠ (.slice Ao97 t120.length co97 : Value).ownBlock ∧ some k_ ≠ (v133 : Value).ownBlock) (Kd.S_keptB (HO_111001.1) hkp (fun k_ hk_ hs_ => (hk_.2.2.2) hs_)) (fun k_ hk_ => ⟨hk_.1.1, hk_.1.2.1, hk_.1.2.2.1, fun e_ => Or.elim (ho0.1 k_ e_.symm) (fun hs_ => hk_.2.1 hs_) (fun hn_ => Nat.not_le.2 hk_.2.2 hn_)⟩))
               replace BK101 := am (blk_kept (pY58) hkp (fun hs_ => (fun e_ => (Kd.R_ne HO130.1 BK101.1 (by decide)) e_) hs_))
               replace BK102 := am (blk_kept (pY59) hkp (fun hs_ => (fun e_ => (Kd.R_ne HO130.1 BK102.1 (by decide)) e_) hs_))
               replace BK110 := am (blk_kept (pY61) hkp (fun hs_ => (fun e_ => (Kd.R_ne HO130.1 BK110.1 (by decide)) e_) hs_))
               replace HO122 := am (Kd.S_mono (ok' := fun k_ => some k_ ≠ (.slice Ao38 t104.length co38 : Value).ownBlock ∧ some k_ ≠ (.slice Ao42 t107.length co42 : Value).ownBlock ∧ some k_ ≠ (.slice Ao92 t117.length co92 : Value).ownBlock ∧ some k_ ≠ (v133 : Value).ownBlock) (Kd.S_keptB (HO122.1) hkp (fun k_ hk_ hs_ => (hk_.2.2.2) hs_)) (fun k_ hk_ => ⟨hk_.1.1, hk_.1.2.1, hk_.1.2.2.1, fun e_ => Or.elim (ho0.1 k_ e_.symm) (fun hs_ => hk_.2.1 hs_) (fun hn_ => Nat.not_le.2 hk_.2.2 hn_)⟩))
               replace BK123 := am (blk_kept (pY64) hkp (fun hs_ => (fun e_ => (Kd.R_ne HO130.1 BK123.1 (by decide)) e_) hs_))
               have HO134 := am (Kd.R_mono (ok' := fun k_ => some k_ ≠ (.slice Ao38 t104.length co38 : Value).ownBlock ∧ some k_ ≠ (.slice Ao92 t117.length co92 : Value).ownBlock) ho0 (fun k_ hk_ => ⟨Or.elim hk_ (fun hs_ => fun e_ => (((HO_111000.1).1 k_ e_.symm).2) hs_) (fun hn_ => (Kd.fresh' (Kd.R_lt (pY67)) k_ hn_)), Or.elim hk_ (fun hs_ => fun e_ => (((HO119.1).1 k_ e_.symm).2) hs_) (fun hn_ => (Kd.fresh' (Kd.R_lt (pY76)) k_ hn_))⟩))
               replace HO_111000 := am (Kd.R_mono (ok' := fun k_ => some k_ ≠ (.slice Ao92 t117.length co92 : Value).ownBlock ∧ some k_ ≠ (v133 : Value).ownBlock) (Kd.R_keptB (HO_111000.1) hkp (fun k_ hk_ hs_ => (hk_.2) hs_)) (fun k_ hk_ => ⟨hk_.1.1, fun e_ => Or.elim (ho0.1 k_ e_.symm) (fun hs_ => hk_.2.1 hs_) (fun hn_ => Nat.not_le.2 hk_.2.2 hn_)⟩))
               replace HO119 := am (Kd.R_mono (ok' := fun k_ => some k_ ≠ (.slice Ao38 t104.length co38 : Value).ownBlock ∧ some k_ ≠ (v133 : Value).ownBlock) (Kd.R_keptB (HO119.1) hkp (fun k_ hk_ hs_ => (hk_.2) hs_)) (fun k_ hk_ => ⟨hk_.1.1, fun e_ => Or.elim (ho0.1 k_ e_.symm) (fun hs_ => hk_.2.1 hs_) (fun hn_ => Nat.not_le.2 hk_.2.2 hn_)⟩))
               replace HB := am (hb)
               clear HO130
               (try clear hb)
               (try clear hkp)
               (try clear ho0)
               have p82 : 0 ≤ (t111 : Int) := of_decide_eq_true (pY82)
               have q82 : (t111 : Int) < ((t120.length : Int) : Int) := of_decide_eq_true (pY82)
               obtain ⟨go82, co82, eo82, gb82, gl82, cl82, HG82⟩ := Kd.S_form HO122.1 (by omega)
               (first | cases eo82 | (injection eo82 with ea_ en_ ec_; (first | subst ea_ | (injection ea_ with ea_; subst ea_)); subst ec_; clear en_))
               have GB82 := am gb82
               have GG82 := am HG82
               clear gb82 gl82 HG82
               obtain ⟨_, ce82, hcl82, hM82, hcc82, hfr82, _, _⟩ := Kd.S_elem HO122.1 z56 (t111 : Int) p82 q82
               obtain ⟨ve82_1, ve82_2, rfl, ge82_1, ge82_2⟩ := k56_openM hM82
               have hx82_0 : World.cell? _ ⟨go82, (t111 : Int).toNat * 3, none⟩ = some (.string ((rd_T56 t120 t111).f0)) := hcc82 0 _ rfl
               have hx82_1 : World.cell? _ ⟨go82, (t111 : Int).toNat * 3 + 1, none⟩ = some (ve82_1) := hcc82 1 _ rfl
               have hx82_2 : World.cell? _ ⟨go82, (t111 : Int).toNat * 3 + 2, none⟩ = some (ve82_2) := hcc82 2 _ rfl
               have hf82_0 : World.frozen? _ ⟨go82, (t111 : Int).toNat * 3, none⟩ = false := hfr82 0
               have hf82_1 : World.frozen? _ ⟨go82, (t111 : Int).toNat * 3 + 1, none⟩ = false := hfr82 1
               have hf82_2 : World.frozen? _ ⟨go82, (t111 : Int).toNat * 3 + 2, none⟩ = false := hfr82 2
               clear hcl82 hcc82 hfr82 hM82
               replace p82 := eq_true p82
               replace q82 := eq_true q82
               have HX105 := am (show Kd.S k56 56 w104 w.heap.size (fun k_ => ((fun k_ => some k_ ≠ (.slice Ao38 t104.length co38 : Value).ownBlock ∧ some k_ ≠ (.slice Ao42 t107.length co42 : Value).ownBlock ∧ some k_ ≠ (.slice Ao92 t117.length co92 : Value).ownBlock)) k_ ∧ ¬ ((fun k_ => some k_ = (v133 : Value).ownBlock)) k_) (.slice (some ⟨go82, 0, none⟩) t120.length co97) t120 from (by refine rS ?_; exact Kd.S_mono HO122.1 (fun k_ hk => ⟨⟨hk.1, ⟨hk.2.1, hk.2.2.1⟩⟩, fun e_ => hk.2.2.2 e_⟩)))
               obtain ⟨oki105, ce105, hcl105, hM105, hcc105, hfr105, hoki105, hH105⟩ := Kd.S_elem HX105.out z56 (t111 : Int) (of_decide_eq_true (pY82)) (by have h_ : (t111 : Int) < ((t120.length : Int) : Int) := of_decide_eq_true (pY82); first | exact h_ | (have e_ := (Kd.S_reads' HO122.1).1; omega) | simpa using h_)
               obtain ⟨ve105_1, ve105_2, rfl, ge105_1, ge105_2⟩ := k56_openM hM105
               have HP105 := (Kd.S_seg hH105 (of_decide_eq_true (pY82)) (by have h_ : (t111 : Int) < ((t120.length : Int) : Int) := of_decide_eq_true (pY82); first | exact h_ | (have e_ := (Kd.S_reads' HO122.1).1; omega) | simpa using h_) (seg := [v133]) (j := 1) (show 2 ≤ 3 from by decide) (x' := (⟨(rd_T56 t120 t111).f0, t132, (rd_T56 t120 t111).f2⟩ : S56)) (k56_mkM _ _ _ (⟨(rd_T56 t120 t111).f0, t132, (rd_T56 t120 t111).f2⟩ : S56) (Kd.R_mono (Kd.R_tight rfl (Kd.R_mono (ok' := fun k_ => ((fun k_ => some k_ ≠ (.slice Ao38 t104.length co38 : Value).ownBlock ∧ some k_ ≠ (.slice Ao42 t107.length co42 : Value).ownBlock ∧ some k_ ≠ (.slice Ao92 t117.length co92 : Value).ownBlock)) k_ ∧ k_ ≠ go82) (Kd.R_apart' (Kd.R_apart' (HO134.1) (Kd.S_typed HO_111001.1) (by decide)) (Kd.S_typed HO122.1) (by decide)) (fun k_ hk => ⟨⟨hk.1.1.1, ⟨hk.1.2, hk.1.1.2⟩⟩, fun e_ => (hk.2) (by rw [e_]; rfl)⟩))) (fun _ h_ => Or.inr (h_))) (Kd.R_mono ge105_2 (fun _ h_ => Or.inl h_)) (fun k_ e1_ e2_ => (hoki105 k_ (ge105_2.1 k_ e2_)).1.2 e1_.symm)) (fun _ hk => hk) (fun k_ hk_ => ((Kd.R_mono (ok' := fun k_ => ((fun k_ => some k_ ≠ (.slice Ao38 t104.length co38 : Value).ownBlock ∧ some k_ ≠ (.slice Ao42 t107.length co42 : Value).ownBlock ∧ some k_ ≠ (.slice Ao92 t117.length co92 : Value).ownBlock)) k_ ∧ k_ ≠ go82) (Kd.R_apart' (Kd.R_apart' (HO134.1) (Kd.S_typed HO_111001.1) (by decide)) (Kd.S_typed HO122.1) (by decide)) (fun k_ hk => ⟨⟨hk.1.1.1, ⟨hk.1.2, hk.1.1.2⟩⟩, fun e_ => (hk.2) (by rw [e_]; rfl)⟩))).1 k_ hk_.symm)).1
               rw [← Ny135.out] at HP105
               have HQ105 := am HP105
               clear hcl105 hcc105 hfr105 hM105 HP105
               refine hK.out _ _ (uA2 BK123).1 (fun hHeld => ?_)
               clear hK K
               refine nM ?_
               refine pU 5 (some 75) ?_
               refine pU 6 (some 76) ?_
               refine last_ (i := 7) (N := none) (bz 8 255) rfl rfl (one_of HT_.out (by kernel_rfl)) (by decide) (fun K hK => ?_)
               refine skip_ (w1 := (w104.setCell ⟨go82, (t111 : Int).toNat * 3 + 1, none⟩ (v133))) (by rfl) rfl ?_ ?_
               skip
               ·obtain ⟨Az_, cz_, ez_⟩ := Kd.R_slice HO134.1
                subst ez_
                go_simp
                (try rfl)
               refine hK.out _ _ ?_
               clear hK K
               refine done_ (done_of HT_.out (by kernel_rfl)) ?_
               have n0_ : Aside0 (Kd.R Kd.string 9 (w104.setCell ⟨go82, (t111 : Int).toNat * 3 + 1, none⟩ (v133)) w.heap.size (fun k_ => some k_ ≠ (.slice Ao92 t117.length co92 : Value).ownBlock) (.slice Ao38 t104.length co38) t104) := ⟨by refine rR ?_; exact Kd.R_mono (Kd.R_far (p := ⟨go82, (t111 : Int).toNat * 3 + 1, none⟩) (Kd.R_types HO_111000.1 GG82.out (by decide)) (fun _ hk => hk.2) (v133)) (fun _ hk => hk.1.1)⟩
               have n1_ : Aside0 (Kd.S k56 56 (w104.setCell ⟨go82, (t111 : Int).toNat * 3 + 1, none⟩ (v133)) w.heap.size (fun k_ => some k_ ≠ (.slice Ao38 t104.length co38 : Value).ownBlock ∧ some k_ ≠ (.slice Ao92 t117.length co92 : Value).ownBlock ∧ some k_ ≠ (.slice (some ⟨go82, 0, none⟩) t120.length co97 : Value).ownBlock) (.slice Ao42 t107.length co42) t107) := ⟨by refine rS ?_; exact Kd.S_mono (Kd.S_far (p := ⟨go82, (t111 : Int).toNat * 3 + 1, none⟩) (Kd.S_mono HO_111001.1 (fun k_ hk => (⟨hk, fun e_ => hk.2.2.1 (by rw [e_]; rfl)⟩ : _ ∧ k_ ≠ go82))) (fun _ hk => hk.2) (v133)) (fun _ hk => ⟨hk.1.1, ⟨hk.1.2.1, hk.1.2.2.1⟩⟩)⟩
               have n2_ : Aside0 (Kd.R Kd.string 9 (w104.setCell ⟨go82, (t111 : Int).toNat * 3 + 1, none⟩ (v133)) w.heap.size (fun k_ => some k_ ≠ (.slice Ao38 t104.length co38 : Value).ownBlock) (.slice Ao92 t117.length co92) t117) := ⟨by refine rR ?_; exact Kd.R_mono (Kd.R_far (p := ⟨go82, (t111 : Int).toNat * 3 + 1, none⟩) (Kd.R_types HO119.1 GG82.out (by decide)) (fun _ hk => hk.2) (v133)) (fun _ hk => hk.1.1)⟩
               have n3_ : Aside0 (Kd.S k56 56 (w104.setCell ⟨go82, (t111 : Int).toNat * 3 + 1, none⟩ (v133)) w.heap.size (fun k_ => some k_ ≠ (.slice Ao38 t104.length co38 : Value).ownBlock ∧ some k_ ≠ (.slice Ao42 t107.length co42 : Value).ownBlock ∧ some k_ ≠ (.slice Ao92 t117.length co92 : Value).ownBlock) (.slice (some ⟨go82, 0, none⟩) t120.length co97) y135) := ⟨rS HQ105.out⟩
               have n4_ : Aside0 ((w104.setCell ⟨go82, (t111 : Int).toNat * 3 + 1, none⟩ (v133)).heap[gb101]? = some (.cells #[.slice A0_0 l0_0.length c0_0, .slice (some ad112) l0_1.length c0_1] 31 (0, 0))) := ⟨by (with_reducible repeat (first | refine blk_drewN ?_ _ | refine blk_drew ?_ | refine blk_alloc ?_ _)); refine blk_far ?_ (by have h_ := Kd.S_ne HO122.1 BK101.1 (by decide); intro e_; exact h_ (by rw [e_]; rfl)) _; (with_reducible repeat (first | refine blk_drewN ?_ _ | refine blk_drew ?_ | refine blk_alloc ?_ _)); exact BK101.1⟩
               have n5_ : Aside0 ((w104.setCell ⟨go82, (t111 : Int).toNat * 3 + 1, none⟩ (v133)).heap[gb102]? = some (.cells #[.slice none 0 0, .slice none 0 0] 31 (0, 0))) := ⟨by (with_reducible repeat (first | refine blk_drewN ?_ _ | refine blk_drew ?_ | refine blk_alloc ?_ _)); refine blk_far ?_ (by have h_ := Kd.S_ne HO122.1 BK102.1 (by decide); intro e_; exact h_ (by rw [e_]; rfl)) _; (with_reducible repeat (first | refine blk_drewN ?_ _ | refine blk_drew ?_ | refine blk_alloc ?_ _)); exact BK102.1⟩
               have n6_ : Aside0 ((w104.setCell ⟨go82, (t111 : Int).toNat * 3 + 1, none⟩ (v133)).heap[gb110]? = some (.cells #[.slice Ao38 t104.length co38, .slice Ao42 t107.length co42] 31 (0, 0))) := ⟨by (with_reducible repeat (first | refine blk_drewN ?_ _ | refine blk_drew ?_ | refine blk_alloc ?_ _)); refine blk_far ?_ (by have h_ := Kd.S_ne HO122.1 BK110.1 (by decide); intro e_; exact h_ (by rw [e_]; rfl)) _; (with_reducible repeat (first | refine blk_drewN ?_ _ | refine blk_drew ?_ | refine blk_alloc ?_ _)); exact BK110.1⟩
               have n7_ : Aside0 ((w104.setCell ⟨go82, (t111 : Int).toNat * 3 + 1, none⟩ (v133)).heap[gb123]? = some (.cells #[.slice Ao92 t117.length co92, .slice (some ⟨go82, 0, none⟩) t120.length co97] 31 (0, 0))) := ⟨by (with_reducible repeat (first | refine blk_drewN ?_ _ | refine blk_drew ?_ | refine blk_alloc ?_ _)); refine blk_far ?_ (by have h_ := Kd.S_ne HO122.1 BK123.1 (by decide); intro e_; exact h_ (by rw [e_]; rfl)) _; (with_reducible repeat (first | refine blk_drewN ?_ _ | refine blk_drew ?_ | refine blk_alloc ?_ _)); exact BK123.1⟩
               have n8_ : Aside0 (Below w.heap.size w (w104.setCell ⟨go82, (t111 : Int).toNat * 3 + 1, none⟩ (v133))) := ⟨by repeat (first | (with_reducible first | exact HB.1 | apply below_alloc | apply pw_below_drewN | apply below_drew1 | refine below_set ?_ GB82.out | refine below_set ?_ GE101.1 | refine below_set ?_ GE102.1 | refine below_set ?_ GE110.1 | refine below_set ?_ GE123.1) | exact HB.1)⟩
               (try clear HO_111000)
               (try clear HO_111001)
               (try clear HO119)
               (try clear HO122)
               (try clear BK101)
               (try clear BK102)
               (try clear BK110)
               (try clear BK123)
               (try clear HB)
               generalize (w104.setCell ⟨go82, (t111 : Int).toNat * 3 + 1, none⟩ (v133)) = w106 at n0_ n1_ n2_ n3_ n4_ n5_ n6_ n7_ n8_ ⊢
               have HO_111000 := n0_
               have HO_111001 := n1_
               have HO119 := n2_
               have HO122 := n3_
               have BK101 := n4_
               have BK102 := n5_
               have BK110 := n6_
               have BK123 := n7_
               have HB := n8_
               clear n0_ n1_ n2_ n3_ n4_ n5_ n6_ n7_ n8_
               obtain ⟨hcz107_0, hcz107_1, hfz107_0, hfz107_1⟩ := cz2 BK101
               try go_wp2_with (first | ((with_reducible refine gate_callee (f := 36) rfl ?_); refine goesL_ (some 78) rfl rfl Try.func36 (by kernel_rfl) rfl #[.agg #[.slice A0_0 l0_0.length c0_0, .slice (some ad112) l0_1.length c0_1]] rfl (pY54) ?_; (with_reducible refine (impl_ShareSafe.calls k1 _ _ l0_0 _ _ l0_1 true _ ?side1 ?side2 ?side3 ?side4 A83.out).mono ?_); (case side1 => exact pC (Kd.C_below HR0_0.1 HB.1)); (case side2 => exact HC0_0.1); (case side3 => exact pC (Kd.C_below HR0_1.1 HB.1)); (case side4 => exact HC0_1.1); rintro e w108 ⟨rfl, hb⟩; refine ⟨_, rfl, ?_⟩; replace HO_111000 := am (Kd.R_below (pY67) hb); replace HO_111001 := am (Kd.S_below (pY71) hb); replace HO119 := am (Kd.R_below (pY76) hb); replace HO122 := am (Kd.S_below (pY77) hb); replace BK101 := bB pY58 hb; replace BK102 := bB pY59 hb; replace BK110 := bB pY61 hb; replace BK123 := bB pY64 hb; replace HB := bS pY30 hb; (try clear hb); (try clear hb2); (try clear hk); (try clear hi); obtain ⟨hcz109_0, hcz109_1, hfz109_0, hfz109_1⟩ := cz2 BK123) | (go_at_call 36; refine calls_of_args (args' := #[.agg #[.slice Ao92 t117.length co92, .slice (some ⟨go82, 0, none⟩) y135.length co97]]) (by first | (rw [show y135.length = t120.length from (Kd.S_reads' HO122.1).1.symm] <;> rfl) | rfl) ?_; (with_reducible refine (impl_ShareSafe.calls k1 _ _ t117 _ _ y135 true _ ?side1 ?side2 ?side3 ?side4 A85.out).mono ?_); (case side1 => exact pC (Kd.R_reads' HO119.1).2.2); (case side2 => exact (Kd.R_reads' HO119.1).2.1); (case side3 => exact pC (Kd.S_reads' HO122.1).2.2); (case side4 => rw [show y135.length = t120.length from (Kd.S_reads' HO122.1).1.symm]; exact (Kd.S_reads' HO122.1).2.1); rintro e w110 ⟨rfl, hb⟩; replace HO_111000 := am (Kd.R_below (pY67) hb); replace HO_111001 := am (Kd.S_below (pY71) hb); replace HO119 := am (Kd.R_below (pY76) hb); replace HO122 := am (Kd.S_below (pY77) hb); replace BK101 := bB pY58 hb; replace BK102 := bB pY59 hb; replace BK110 := bB pY61 hb; replace BK123 := bB pY64 hb; replace HB := bS pY30 hb; (try clear hb); (try clear hb2); (try clear hk); (try clear hi); obtain ⟨hcz111_0, hcz111_1, hfz111_0, hfz111_1⟩ := cz2 BK123; have hnb112 := NB102_110.1; have hnc112 := NB110_102.1; obtain ⟨hcz113_0, hcz113_1, hfz113_0, hfz113_1⟩ := cz2 BK102))
               refine bodyPost_ret (results_ct rfl _ _ gb102 31 #[.slice Ao92 t117.length co92, .slice (some ⟨go82, 0, none⟩) t120.length co97] (0, 0) _ rfl (by (with_reducible repeat (first | refine blk_drewN ?_ _ | refine blk_drew ?_ | refine blk_alloc ?_ _)); refine blk_put (cs := #[.slice Ao92 t117.length co92, .slice none 0 0]) ?_ 1 _ rfl; (with_reducible repeat (first | refine blk_drewN ?_ _ | refine blk_drew ?_ | refine blk_alloc ?_ _)); refine blk_put (cs := #[.slice none 0 0, .slice none 0 0]) ?_ 0 _ rfl; (with_reducible repeat (first | refine blk_drewN ?_ _ | refine blk_drew ?_ | refine blk_alloc ?_ _)); exact BK102.1) Try.underlying31 rfl (by kernel_rfl)) rfl ?_
               exact ⟨_, _, by first | rfl | (simp [errW_none, errW_some] <;> rfl) | (simp [*, errW_none, errW_some] <;> rfl), by refine rR ?_; exact Kd.R_mono (Kd.R_far (p := ⟨gb102, 1, none⟩) (Kd.R_far (p := ⟨gb102, 0, none⟩) (Kd.R_types HO119.1 BK102.1 (by decide)) (fun _ hk => hk.2) (.slice Ao92 t117.length co92)) (fun _ hk => hk.2) (.slice (some ⟨go82, 0, none⟩) t120.length co97)) (fun _ hk => trivial), by refine rS ?_; exact Kd.S_mono (Kd.S_far (p := ⟨gb102, 1, none⟩) (Kd.S_far (p := ⟨gb102, 0, none⟩) (Kd.S_types HO122.1 BK102.1 (by decide)) (fun _ hk => hk.2) (.slice Ao92 t117.length co92)) (fun _ hk => hk.2) (.slice (some ⟨go82, 0, none⟩) t120.length co97)) (fun _ hk => hk.1.2.2), pY30⟩
              ·replace c86 := Bool.eq_false_iff.mpr c86
               subst c86
               replace H := iF H
               simp only [Option.some.injEq, Prod.mk.injEq] at H
               obtain ⟨rfl, rfl, rfl⟩ := H
               have hnb114 := NB101_102.1
               have hnc114 := NB102_101.1
               have hnb115 := NB101_110.1
               have hnc115 := NB110_101.1
               obtain ⟨hcz116_0, hcz116_1, hfz116_0, hfz116_1⟩ := cz2 BK101
               try go_wp2_with (first | ((with_reducible refine gate_callee (f := 90) rfl ?_); refine goesL_ (some 58) rfl rfl Try.func90 (by kernel_rfl) rfl #[.agg #[.slice A0_0 l0_0.length c0_0, .slice (some ad112) l0_1.length c0_1]] rfl (pY54) ?_; (with_reducible refine (impl_copyBook.calls k1 _ _ l0_0 _ _ l0_1 t117 t120 _ ?side1 ?side2 ?side3 ?side4 A74.out).mono ?_); (case side1 => exact pC (Kd.C_below HR0_0.1 HB.1)); (case side2 => exact HC0_0.1); (case side3 => exact pC (Kd.C_below HR0_1.1 HB.1)); (case side4 => exact HC0_1.1); rintro e w117 ⟨v118, v121, rfl, ho0, ho1, hb⟩; refine ⟨_, rfl, ?_⟩; have HO119 := am (Kd.R_lower (Kd.R_new' ho0 (Kd.R_lt (pY67))) (below_size (pY43))); have HO122 := am (Kd.S_lower (Kd.S_new' (Kd.S_new' ho1 (Kd.R_lt (pY67))) (Kd.S_lt (pY71))) (below_size (pY43))); replace HO_111000 := am (Kd.R_elder' (pY67) (Kd.R_base ho0) hb); replace HO_111001 := am (Kd.S_mono (Kd.S_told (Kd.S_told (Kd.S_old (pY71) hb) (Kd.R_base ho0)) (Kd.S_base ho1)) (fun _ h_ => h_.1)); replace BK101 := bB pY58 hb; replace BK102 := bB pY59 hb; replace BK110 := bB pY61 hb; replace HB := bS pY43 hb; (try clear hb); (try clear hb2); (try clear hk); (try clear hi); (try clear ho0); (try clear ho1)) | (refine bX 12 #[.slice none 0 0, .slice none 0 0] 31 ?_; intro gb123 hg w118 hbox hb; replace HO_111000 := am (Kd.R_below (pY67) hb); replace HO_111001 := am (Kd.S_below (pY71) hb); replace HO119 := am (Kd.R_below (pY76) hb); replace HO122 := am (Kd.S_below (pY77) hb); have BK123 := am (hbox); have GW123 := am (pY26 : w.heap.size ≤ gb123); have GE123 := am (pY26 : w.heap.size ≤ gb123); replace HB := bS pY43 hb; have NB101_123 := nL pY58 hg; have NB123_101 := nG pY58 hg; replace BK101 := bB pY58 hb; have NB102_123 := nL pY59 hg; have NB123_102 := nG pY59 hg; replace BK102 := bB pY59 hb; have NB110_123 := nL pY61 hg; have NB123_110 := nG pY61 hg; replace BK110 := bB pY61 hb; clear hb hbox hg; obtain ⟨Ao119, co119, eo119⟩ := Kd.R_slice HO119.1; subst eo119; have hnb120 := NB123_101.1; have hnc120 := NB101_123.1; have hnb121 := NB123_102.1; have hnc121 := NB102_123.1; have hnb122 := NB123_110.1; have hnc122 := NB110_123.1; obtain ⟨hcz123_0, hcz123_1, hfz123_0, hfz123_1⟩ := cz2 BK123; obtain ⟨Ao124, co124, eo124⟩ := Kd.S_slice HO122.1; subst eo124; obtain ⟨hcz125_0, hcz125_1, hfz125_0, hfz125_1⟩ := cz2 BK101; have p124 : 0 ≤ (t111 : Int) := of_decide_eq_true (pY82); have q124 : t111 < (l0_1.length : Int) := of_decide_eq_true (pY82); obtain ⟨ad124, A124_1, c124_1, A124_2, c124_2, e124, hx124_0, hx124_1, hx124_2, hl124_1, hi124_1, hl124_2, hi124_2⟩ := at_T56 HR0_1.1 t111 p124 q124; obtain rfl : ad112 = ad124 := (by injection e124); have hn124_0 : ad112.block ≠ gb123 := Nat.ne_of_lt (Nat.lt_of_lt_of_le (by have := World.block_lt_of_cell? _ _ hx124_0; first | rwa [add_block] at this | exact this) GW123.out); have hn124_1 : ad112.block ≠ gb123 := Nat.ne_of_lt (Nat.lt_of_lt_of_le (by have := World.block_lt_of_cell? _ _ hx124_0; first | rwa [add_block] at this | exact this) GW123.out); replace hx124_0 := hX HB hx124_0; replace hx124_1 := hX HB hx124_1; replace hx124_2 := hX HB hx124_2; have HR124_1 := am hi124_1; have HC124_1 := am hl124_1; clear hi124_1 hl124_1; have HR124_2 := am hi124_2; have HC124_2 := am hl124_2; clear hi124_2 hl124_2; replace hx124_0 := (cell_far (p := ⟨gb123, 0, none⟩) (pY56) (.slice Ao119 t117.length co119)).trans hx124_0; replace hx124_1 := (cell_far (p := ⟨gb123, 0, none⟩) (pY56) (.slice Ao119 t117.length co119)).trans hx124_1; replace hx124_2 := (cell_far (p := ⟨gb123, 0, none⟩) (pY56) (.slice Ao119 t117.length co119)).trans hx124_2; replace hx124_0 := (cell_far (p := ⟨gb123, 1, none⟩) (pY57) (.slice Ao124 t120.length co124)).trans hx124_0; replace hx124_1 := (cell_far (p := ⟨gb123, 1, none⟩) (pY57) (.slice Ao124 t120.length co124)).trans hx124_1; replace hx124_2 := (cell_far (p := ⟨gb123, 1, none⟩) (pY57) (.slice Ao124 t120.length co124)).trans hx124_2; clear hn124_0; clear hn124_1; replace p124 := eq_true p124; replace q124 := eq_true q124) | ((with_reducible refine gate_callee (f := 94) rfl ?_); refine goesL_ (some 65) rfl rfl Try.func94 (by kernel_rfl) rfl #[.slice A124_1 ((rd_T56 l0_1 t111).f1).length c124_1] rfl (pY54) ?_; (with_reducible refine (slices_Clone_string_string.calls _ _ ((rd_T56 l0_1 t111).f1) t125 _ ?side1 ?side2 A77.out).mono ?_); (case side1 => exact Kd.C_below HR124_1.1 (pY30)); (case side2 => exact HC124_1.1); rintro e w126 ⟨v126, rfl, ho0, hb⟩; refine ⟨_, rfl, ?_⟩; replace HO_111001 := am (Kd.S_elder' (by refine rS ?_; exact (Kd.S_mono (Kd.S_far (p := ⟨gb123, 1, none⟩) (Kd.S_far (p := ⟨gb123, 0, none⟩) (Kd.S_types HO_111001.1 BK123.1 (by decide)) (fun _ hk => hk.2) (.slice Ao119 t117.length co119)) (fun _ hk => hk.2) (.slice Ao124 t120.length co124)) (fun _ h_ => h_.1))) (Kd.R_base ho0) hb); replace HO122 := am (Kd.S_elder' (by refine rS ?_; exact (Kd.S_mono (Kd.S_far (p := ⟨gb123, 1, none⟩) (Kd.S_far (p := ⟨gb123, 0, none⟩) (Kd.S_types HO122.1 BK123.1 (by decide)) (fun _ hk => hk.2) (.slice Ao119 t117.length co119)) (fun _ hk => hk.2) (.slice Ao124 t120.length co124)) (fun _ h_ => h_.1))) (Kd.R_base ho0) hb); have HO127 := am (Kd.R_lower (Kd.R_new' (Kd.R_new' ho0 (Kd.R_lt (by refine rR ?_; exact (Kd.R_mono (Kd.R_far (p := ⟨gb123, 1, none⟩) (Kd.R_far (p := ⟨gb123, 0, none⟩) (Kd.R_types HO_111000.1 BK123.1 (by decide)) (fun _ hk => hk.2) (.slice Ao119 t117.length co119)) (fun _ hk => hk.2) (.slice Ao124 t120.length co124)) (fun _ h_ => h_.1))))) (Kd.R_lt (by refine rR ?_; exact (Kd.R_mono (Kd.R_far (p := ⟨gb123, 1, none⟩) (Kd.R_far (p := ⟨gb123, 0, none⟩) (Kd.R_types HO119.1 BK123.1 (by decide)) (fun _ hk => hk.2) (.slice Ao119 t117.length co119)) (fun _ hk => hk.2) (.slice Ao124 t120.length co124)) (fun _ h_ => h_.1))))) (below_size (pY30))); replace HO_111000 := am (Kd.R_elder' (by refine rR ?_; exact (Kd.R_mono (Kd.R_far (p := ⟨gb123, 1, none⟩) (Kd.R_far (p := ⟨gb123, 0, none⟩) (Kd.R_types HO_111000.1 BK123.1 (by decide)) (fun _ hk => hk.2) (.slice Ao119 t117.length co119)) (fun _ hk => hk.2) (.slice Ao124 t120.length co124)) (fun _ h_ => h_.1))) (Kd.R_base ho0) hb); replace HO119 := am (Kd.R_elder' (by refine rR ?_; exact (Kd.R_mono (Kd.R_far (p := ⟨gb123, 1, none⟩) (Kd.R_far (p := ⟨gb123, 0, none⟩) (Kd.R_types HO119.1 BK123.1 (by decide)) (fun _ hk => hk.2) (.slice Ao119 t117.length co119)) (fun _ hk => hk.2) (.slice Ao124 t120.length co124)) (fun _ h_ => h_.1))) (Kd.R_base ho0) hb); replace BK101 := am (blk_below (g := gb101) (o := .cells #[.slice A0_0 l0_0.length c0_0, .slice (some ad112) l0_1.length c0_1] 31 (0, 0)) (pY12) hb); replace BK102 := am (blk_below (g := gb102) (o := .cells #[.slice none 0 0, .slice none 0 0] 31 (0, 0)) (pY13) hb); replace BK110 := am (blk_below (g := gb110) (o := .cells #[.slice Ao38 t104.length co38, .slice Ao42 t107.length co42] 31 (0, 0)) (pY14) hb); replace BK123 := am (blk_below (g := gb123) (o := .cells #[.slice Ao119 t117.length co119, .slice Ao124 t120.length co124] 31 (0, 0)) (by (with_reducible repeat (first | refine blk_drewN ?_ _ | refine blk_drew ?_ | refine blk_alloc ?_ _)); refine blk_put (cs := #[.slice Ao119 t117.length co119, .slice none 0 0]) ?_ 1 _ rfl; (with_reducible repeat (first | refine blk_drewN ?_ _ | refine blk_drew ?_ | refine blk_alloc ?_ _)); refine blk_put (cs := #[.slice none 0 0, .slice none 0 0]) ?_ 0 _ rfl; (with_reducible repeat (first | refine blk_drewN ?_ _ | refine blk_drew ?_ | refine blk_alloc ?_ _)); exact BK123.1) hb); replace HB := bS pY30 hb; (try clear hb); (try clear hb2); (try clear hk); (try clear hi); (try clear ho0)) | ((with_reducible refine gate_builtin (b := .append) (xs := #[.tmp 65, .tmp 66]) rfl ?_); at_builtin; refine Kd.R_append_rows Kd.string (w0 := w) w.heap.size rfl (.tmp 65) (.tmp 66) 23 9 (.string ⟨#[]⟩) 16 rfl Try.underlying23 info9 rfl (by decide) (by omega) v126 t125 l2 _ _ _ (fun k_ => some k_ ≠ (.slice Ao38 t104.length co38 : Value).ownBlock ∧ some k_ ≠ (.slice Ao119 t117.length co119 : Value).ownBlock) (fun _ => False) rfl rfl ?aO ?aR (fun _ _ h => h) (fun _ h => h.elim) ?aF ?aB ?aS ?aL ?_; (case aR => repeat (first | exact (Kd.C_below HR2.1 HB.1) | (with_reducible refine Kd.C_alloc ?_ _) | (with_reducible refine Kd.C_drewN ?_ _) | (with_reducible refine Kd.C_drew ?_))); (case aB => exact (pY30)); (case aF => exact (fun k_ hk => ⟨Kd.fresh' (Kd.R_lt (pY67)) k_ hk, Kd.fresh' (Kd.R_lt (pY76)) k_ hk⟩)); (case aO => exact (by refine rR ?_; exact Kd.R_mono HO127.1 (fun _ hk => ⟨hk.1.2, hk.2⟩))); (case aS => exact (below_size (pY30))); (case aL => have := LMc78.out; omega); intro v129 w127 ho hb hg hat; rw [← Ny128.out] at ho; replace HO_111000 := am (Kd.R_after (ok := (fun k_ => some k_ ≠ (.slice Ao119 t117.length co119 : Value).ownBlock)) (by refine rR ?_; exact Kd.R_mono HO_111000.1 (fun _ hk => ⟨hk.1.2, hk.2⟩)) hg hat); replace HO_111001 := am (Kd.S_after (ok := (fun k_ => some k_ ≠ (.slice Ao38 t104.length co38 : Value).ownBlock ∧ some k_ ≠ (.slice Ao119 t117.length co119 : Value).ownBlock ∧ some k_ ≠ (.slice Ao124 t120.length co124 : Value).ownBlock)) (by refine rS ?_; exact Kd.S_mono HO_111001.1 (fun _ hk => ⟨⟨hk.1.1.1, ⟨hk.1.1.2, hk.1.2⟩⟩, hk.2⟩)) hg hat); replace BK101 := am (blk_grown (g := gb101) (o := .cells #[.slice A0_0 l0_0.length c0_0, .slice (some ad112) l0_1.length c0_1] 31 (0, 0)) (pY58) hg (Kd.R_ne HO127.1 BK101.1 (by decide))); replace BK102 := am (blk_grown (g := gb102) (o := .cells #[.slice none 0 0, .slice none 0 0] 31 (0, 0)) (pY59) hg (Kd.R_ne HO127.1 BK102.1 (by decide))); replace BK110 := am (blk_grown (g := gb110) (o := .cells #[.slice Ao38 t104.length co38, .slice Ao42 t107.length co42] 31 (0, 0)) (pY61) hg (Kd.R_ne HO127.1 BK110.1 (by decide))); replace HO119 := am (Kd.R_after (ok := (fun k_ => some k_ ≠ (.slice Ao38 t104.length co38 : Value).ownBlock)) (by refine rR ?_; exact Kd.R_mono HO119.1 (fun _ hk => ⟨hk.1.2, hk.2⟩)) hg hat); replace HO122 := am (Kd.S_after (ok := (fun k_ => some k_ ≠ (.slice Ao38 t104.length co38 : Value).ownBlock ∧ some k_ ≠ (.slice Ao42 t107.length co42 : Value).ownBlock ∧ some k_ ≠ (.slice Ao119 t117.length co119 : Value).ownBlock)) (by refine rS ?_; exact Kd.S_mono HO122.1 (fun _ hk => ⟨⟨hk.1.1.2, ⟨hk.1.2, hk.1.1.1⟩⟩, hk.2⟩)) hg hat); replace BK123 := am (blk_grown (g := gb123) (o := .cells #[.slice Ao119 t117.length co119, .slice Ao124 t120.length co124] 31 (0, 0)) (pY64) hg (Kd.R_ne HO127.1 BK123.1 (by decide))); replace HB := am (hb); have HO130 := am (ho); clear HO127; clear ho hb hg hat; obtain ⟨Ao128, co128, eo128⟩ := Kd.R_slice HO130.1; subst eo128) | ((with_reducible refine gate_callee (f := 107) rfl ?_); refine goesL_ (some 69) rfl rfl Try.func107 (by kernel_rfl) rfl #[.slice Ao128 y128.length co128] rfl (pY54) ?_; (with_reducible refine (sort_Strings.calls (fun k_ => some k_ = (.slice Ao128 y128.length co128 : Value).ownBlock) (.slice Ao128 y128.length co128) y128 t131 w _ ?side1 ?side2 A79.out).mono ?_); (case side1 => repeat (first | (with_reducible first | exact HB.1 | apply below_alloc | apply pw_below_drewN | apply below_drew1 | refine below_set ?_ GE101.1 | refine below_set ?_ GE102.1 | refine below_set ?_ GE110.1 | refine below_set ?_ GE123.1) | exact HB.1)); (case side2 => exact Kd.R_tight rfl HO130.1); rintro e w129 ⟨rfl, hy0, hb, hkp⟩; refine ⟨_, rfl, ?_⟩; replace HO_111000 := am (Kd.R_mono (ok' := fun k_ => some k_ ≠ (.slice Ao119 t117.length co119 : Value).ownBlock ∧ some k_ ≠ (.slice Ao128 y128.length co128 : Value).ownBlock) (Kd.R_keptB (HO_111000.1) hkp (fun k_ hk_ hs_ => (hk_.2) hs_)) (fun k_ hk_ => ⟨hk_.1.1, hk_.1.2⟩)); replace HO_111001 := am (Kd.S_mono (ok' := fun k_ => some k_ ≠ (.slice Ao38 t104.length co38 : Value).ownBlock ∧ some k_ ≠ (.slice Ao119 t117.length co119 : Value).ownBlock ∧ some k_ ≠ (.slice Ao124 t120.length co124 : Value).ownBlock ∧ some k_ ≠ (.slice Ao128 y128.length co128 : Value).ownBlock) (Kd.S_keptB (HO_111001.1) hkp (fun k_ hk_ hs_ => (hk_.2) hs_)) (fun k_ hk_ => ⟨hk_.1.1.1, hk_.1.1.2.1, hk_.1.1.2.2, hk_.1.2⟩)); replace BK101 := am (blk_kept (pY58) hkp (fun hs_ => (fun e_ => (Kd.R_ne HO130.1 BK101.1 (by decide)) e_) hs_)); replace BK102 := am (blk_kept (pY59) hkp (fun hs_ => (fun e_ => (Kd.R_ne HO130.1 BK102.1 (by decide)) e_) hs_)); replace BK110 := am (blk_kept (pY61) hkp (fun hs_ => (fun e_ => (Kd.R_ne HO130.1 BK110.1 (by decide)) e_) hs_)); replace HO119 := am (Kd.R_mono (ok' := fun k_ => some k_ ≠ (.slice Ao38 t104.length co38 : Value).ownBlock ∧ some k_ ≠ (.slice Ao128 y128.length co128 : Value).ownBlock) (Kd.R_keptB (HO119.1) hkp (fun k_ hk_ hs_ => (hk_.2) hs_)) (fun k_ hk_ => ⟨hk_.1.1, hk_.1.2⟩)); replace HO122 := am (Kd.S_mono (ok' := fun k_ => some k_ ≠ (.slice Ao38 t104.length co38 : Value).ownBlock ∧ some k_ ≠ (.slice Ao42 t107.length co42 : Value).ownBlock ∧ some k_ ≠ (.slice Ao119 t117.length co119 : Value).ownBlock ∧ some k_ ≠ (.slice Ao128 y128.length co128 : Value).ownBlock) (Kd.S_keptB (HO122.1) hkp (fun k_ hk_ hs_ => (hk_.2) hs_)) (fun k_ hk_ => ⟨hk_.1.1.1, hk_.1.1.2.1, hk_.1.1.2.2, hk_.1.2⟩)); replace BK123 := am (blk_kept (pY64) hkp (fun hs_ => (fun e_ => (Kd.R_ne HO130.1 BK123.1 (by decide)) e_) hs_)); replace HO130 := am (Kd.R_reok rfl hy0 (fun k_ e_ => HO130.1.1 k_ e_)); replace HB := am (hb); (try clear hb); (try clear hkp); (try clear hy0)))
               replace HO_111000 := am (Kd.R_drew HO_111000.1)
               replace HO_111001 := am (Kd.S_drew HO_111001.1)
               replace HO119 := am (Kd.R_drew HO119.1)
               replace HO122 := am (Kd.S_drew HO122.1)
               replace HO130 := am (Kd.R_drew HO130.1)
               replace BK101 := am (blk_drew BK101.1)
               replace BK102 := am (blk_drew BK102.1)
               replace BK110 := am (blk_drew BK110.1)
               replace BK123 := am (blk_drew BK123.1)
               replace HB := am (below_drew1 HB.1)
               refine sT [7] 8 (uA2 BK123) (fun hHeld => ?_); refine with_tabW impl_ShareAsk.tab18 impl_ShareAsk.bits18 (fun HT_ HW_ => ?_)
               generalize w129.drew = w130 at HO_111000 HO_111001 HO119 HO122 HO130 BK101 BK102 BK110 BK123 HB hHeld ⊢
               refine pU 0 (some 70) ?_
               refine pU 2 (some 72) ?_
               refine pU 3 (some 73) ?_
               refine tK2 1 (some 71) ?_
               refine oN 4 (some 74) fun K hK => ?_
               refine goes_ Try.func108 (by kernel_rfl) rfl #[.slice Ao128 y128.length co128] (by rfl) rfl rfl (pY54) ?_
               with_reducible refine (slices_Compact_string_string.calls (fun k_ => some k_ = (.slice Ao128 y128.length co128 : Value).ownBlock) (.slice Ao128 y128.length co128) t131 t132 w _ ?side1 ?side2 A80.out).mono ?_
               (case side1 => repeat (first | (with_reducible first | exact HB.1 | apply below_alloc | apply pw_below_drewN | apply below_drew1 | refine below_set ?_ GE101.1 | refine below_set ?_ GE102.1 | refine below_set ?_ GE110.1 | refine below_set ?_ GE123.1) | exact HB.1))
               (case side2 => exact Kd.R_tight rfl HO130.1)
               rintro e w131 ⟨v133, rfl, ho0, hb, hkp⟩
               refine ⟨_, rfl, ?_⟩
               replace HO_111001 := am (Kd.S_mono (ok' := fun k_ => some k_ ≠ (.slice Ao38 t104.length co38 : Value).ownBlock ∧ some k_ ≠ (.slice Ao119 t117.length co119 : Value).ownBlock ∧ some k_ ≠ (.slice Ao124 t120.length co124 : Value).ownBlock ∧ some k_ ≠ (v133 : Value).ownBlock) (Kd.S_keptB (HO_111001.1) hkp (fun k_ hk_ hs_ => (hk_.2.2.2) hs_)) (fun k_ hk_ => ⟨hk_.1.1, hk_.1.2.1, hk_.1.2.2.1, fun e_ => Or.elim (ho0.1 k_ e_.symm) (fun hs_ => hk_.2.1 hs_) (fun hn_ => Nat.not_le.2 hk_.2.2 hn_)⟩))
               replace BK101 := am (blk_kept (pY58) hkp (fun hs_ => (fun e_ => (Kd.R_ne HO130.1 BK101.1 (by decide)) e_) hs_))
               replace BK102 := am (blk_kept (pY59) hkp (fun hs_ => (fun e_ => (Kd.R_ne HO130.1 BK102.1 (by decide)) e_) hs_))
               replace BK110 := am (blk_kept (pY61) hkp (fun hs_ => (fun e_ => (Kd.R_ne HO130.1 BK110.1 (by decide)) e_) hs_))
               replace HO122 := am (Kd.S_mono (ok' := fun k_ => some k_ ≠ (.slice Ao38 t104.length co38 : Value).ownBlock ∧ some k_ ≠ (.slice Ao42 t107.length co42 : Value).ownBlock ∧ some k_ ≠ (.slice Ao119 t117.length co119 : Value).ownBlock ∧ some k_ ≠ (v133 : Value).ownBlock) (Kd.S_keptB (HO122.1) hkp (fun k_ hk_ hs_ => (hk_.2.2.2) hs_)) (fun k_ hk_ => ⟨hk_.1.1, hk_.1.2.1, hk_.1.2.2.1, fun e_ => Or.elim (ho0.1 k_ e_.symm) (fun hs_ => hk_.2.1 hs_) (fun hn_ => Nat.not_le.2 hk_.2.2 hn_)⟩))
               replace BK123 := am (blk_kept (pY64) hkp (fun hs_ => (fun e_ => (Kd.R_ne HO130.1 BK123.1 (by decide)) e_) hs_))
               have HO134 := am (Kd.R_mono (ok' := fun k_ => some k_ ≠ (.slice Ao38 t104.length co38 : Value).ownBlock ∧ some k_ ≠ (.slice Ao119 t117.length co119 : Value).ownBlock) ho0 (fun k_ hk_ => ⟨Or.elim hk_ (fun hs_ => fun e_ => (((HO_111000.1).1 k_ e_.symm).2) hs_) (fun hn_ => (Kd.fresh' (Kd.R_lt (pY67)) k_ hn_)), Or.elim hk_ (fun hs_ => fun e_ => (((HO119.1).1 k_ e_.symm).2) hs_) (fun hn_ => (Kd.fresh' (Kd.R_lt (pY76)) k_ hn_))⟩))
               replace HO_111000 := am (Kd.R_mono (ok' := fun k_ => some k_ ≠ (.slice Ao119 t117.length co119 : Value).ownBlock ∧ some k_ ≠ (v133 : Value).ownBlock) (Kd.R_keptB (HO_111000.1) hkp (fun k_ hk_ hs_ => (hk_.2) hs_)) (fun k_ hk_ => ⟨hk_.1.1, fun e_ => Or.elim (ho0.1 k_ e_.symm) (fun hs_ => hk_.2.1 hs_) (fun hn_ => Nat.not_le.2 hk_.2.2 hn_)⟩))
               replace HO119 := am (Kd.R_mono (ok' := fun k_ => some k_ ≠ (.slice Ao38 t104.length co38 : Value).ownBlock ∧ some k_ ≠ (v133 : Value).ownBlock) (Kd.R_keptB (HO119.1) hkp (fun k_ hk_ hs_ => (hk_.2) hs_)) (fun k_ hk_ => ⟨hk_.1.1, fun e_ => Or.elim (ho0.1 k_ e_.symm) (fun hs_ => hk_.2.1 hs_) (fun hn_ => Nat.not_le.2 hk_.2.2 hn_)⟩))
               replace HB := am (hb)
               clear HO130
               (try clear hb)
               (try clear hkp)
               (try clear ho0)
               have p82 : 0 ≤ (t111 : Int) := of_decide_eq_true (pY82)
               have q82 : (t111 : Int) < ((t120.length : Int) : Int) := of_decide_eq_true (pY82)
               obtain ⟨go82, co82, eo82, gb82, gl82, cl82, HG82⟩ := Kd.S_form HO122.1 (by omega)
               (first | cases eo82 | (injection eo82 with ea_ en_ ec_; (first | subst ea_ | (injection ea_ with ea_; subst ea_)); subst ec_; clear en_))
               have GB82 := am gb82
               have GG82 := am HG82
               clear gb82 gl82 HG82
               obtain ⟨_, ce82, hcl82, hM82, hcc82, hfr82, _, _⟩ := Kd.S_elem HO122.1 z56 (t111 : Int) p82 q82
               obtain ⟨ve82_1, ve82_2, rfl, ge82_1, ge82_2⟩ := k56_openM hM82
               have hx82_0 : World.cell? _ ⟨go82, (t111 : Int).toNat * 3, none⟩ = some (.string ((rd_T56 t120 t111).f0)) := hcc82 0 _ rfl
               have hx82_1 : World.cell? _ ⟨go82, (t111 : Int).toNat * 3 + 1, none⟩ = some (ve82_1) := hcc82 1 _ rfl
               have hx82_2 : World.cell? _ ⟨go82, (t111 : Int).toNat * 3 + 2, none⟩ = some (ve82_2) := hcc82 2 _ rfl
               have hf82_0 : World.frozen? _ ⟨go82, (t111 : Int).toNat * 3, none⟩ = false := hfr82 0
               have hf82_1 : World.frozen? _ ⟨go82, (t111 : Int).toNat * 3 + 1, none⟩ = false := hfr82 1
               have hf82_2 : World.frozen? _ ⟨go82, (t111 : Int).toNat * 3 + 2, none⟩ = false := hfr82 2
               clear hcl82 hcc82 hfr82 hM82
               replace p82 := eq_true p82
               replace q82 := eq_true q82
               have HX132 := am (show Kd.S k56 56 w131 w.heap.size (fun k_ => ((fun k_ => some k_ ≠ (.slice Ao38 t104.length co38 : Value).ownBlock ∧ some k_ ≠ (.slice Ao42 t107.length co42 : Value).ownBlock ∧ some k_ ≠ (.slice Ao119 t117.length co119 : Value).ownBlock)) k_ ∧ ¬ ((fun k_ => some k_ = (v133 : Value).ownBlock)) k_) (.slice (some ⟨go82, 0, none⟩) t120.length co124) t120 from (by refine rS ?_; exact Kd.S_mono HO122.1 (fun k_ hk => ⟨⟨hk.1, ⟨hk.2.1, hk.2.2.1⟩⟩, fun e_ => hk.2.2.2 e_⟩)))
               obtain ⟨oki132, ce132, hcl132, hM132, hcc132, hfr132, hoki132, hH132⟩ := Kd.S_elem HX132.out z56 (t111 : Int) (of_decide_eq_true (pY82)) (by have h_ : (t111 : Int) < ((t120.length : Int) : Int) := of_decide_eq_true (pY82); first | exact h_ | (have e_ := (Kd.S_reads' HO122.1).1; omega) | simpa using h_)
               obtain ⟨ve132_1, ve132_2, rfl, ge132_1, ge132_2⟩ := k56_openM hM132
               have HP132 := (Kd.S_seg hH132 (of_decide_eq_true (pY82)) (by have h_ : (t111 : Int) < ((t120.length : Int) : Int) := of_decide_eq_true (pY82); first | exact h_ | (have e_ := (Kd.S_reads' HO122.1).1; omega) | simpa using h_) (seg := [v133]) (j := 1) (show 2 ≤ 3 from by decide) (x' := (⟨(rd_T56 t120 t111).f0, t132, (rd_T56 t120 t111).f2⟩ : S56)) (k56_mkM _ _ _ (⟨(rd_T56 t120 t111).f0, t132, (rd_T56 t120 t111).f2⟩ : S56) (Kd.R_mono (Kd.R_tight rfl (Kd.R_mono (ok' := fun k_ => ((fun k_ => some k_ ≠ (.slice Ao38 t104.length co38 : Value).ownBlock ∧ some k_ ≠ (.slice Ao42 t107.length co42 : Value).ownBlock ∧ some k_ ≠ (.slice Ao119 t117.length co119 : Value).ownBlock)) k_ ∧ k_ ≠ go82) (Kd.R_apart' (Kd.R_apart' (HO134.1) (Kd.S_typed HO_111001.1) (by decide)) (Kd.S_typed HO122.1) (by decide)) (fun k_ hk => ⟨⟨hk.1.1.1, ⟨hk.1.2, hk.1.1.2⟩⟩, fun e_ => (hk.2) (by rw [e_]; rfl)⟩))) (fun _ h_ => Or.inr (h_))) (Kd.R_mono ge132_2 (fun _ h_ => Or.inl h_)) (fun k_ e1_ e2_ => (hoki132 k_ (ge132_2.1 k_ e2_)).1.2 e1_.symm)) (fun _ hk => hk) (fun k_ hk_ => ((Kd.R_mono (ok' := fun k_ => ((fun k_ => some k_ ≠ (.slice Ao38 t104.length co38 : Value).ownBlock ∧ some k_ ≠ (.slice Ao42 t107.length co42 : Value).ownBlock ∧ some k_ ≠ (.slice Ao119 t117.length co119 : Value).ownBlock)) k_ ∧ k_ ≠ go82) (Kd.R_apart' (Kd.R_apart' (HO134.1) (Kd.S_typed HO_111001.1) (by decide)) (Kd.S_typed HO122.1) (by decide)) (fun k_ hk => ⟨⟨hk.1.1.1, ⟨hk.1.2, hk.1.1.2⟩⟩, fun e_ => (hk.2) (by rw [e_]; rfl)⟩))).1 k_ hk_.symm)).1
               rw [← Ny135.out] at HP132
               have HQ132 := am HP132
               clear hcl132 hcc132 hfr132 hM132 HP132
               refine hK.out _ _ (uA2 BK123).1 (fun hHeld => ?_)
               clear hK K
               refine nM ?_
               refine pU 5 (some 75) ?_
               refine pU 6 (some 76) ?_
               refine last_ (i := 7) (N := none) (bz 8 255) rfl rfl (one_of HT_.out (by kernel_rfl)) (by decide) (fun K hK => ?_)
               refine skip_ (w1 := (w131.setCell ⟨go82, (t111 : Int).toNat * 3 + 1, none⟩ (v133))) (by rfl) rfl ?_ ?_
               skip
               ·obtain ⟨Az_, cz_, ez_⟩ := Kd.R_slice HO134.1
                subst ez_
                go_simp
                (try rfl)
               refine hK.out _ _ ?_
               clear hK K
               refine done_ (done_of HT_.out (by kernel_rfl)) ?_
               have n0_ : Aside0 (Kd.R Kd.string 9 (w131.setCell ⟨go82, (t111 : Int).toNat * 3 + 1, none⟩ (v133)) w.heap.size (fun k_ => some k_ ≠ (.slice Ao119 t117.length co119 : Value).ownBlock) (.slice Ao38 t104.length co38) t104) := ⟨by refine rR ?_; exact Kd.R_mono (Kd.R_far (p := ⟨go82, (t111 : Int).toNat * 3 + 1, none⟩) (Kd.R_types HO_111000.1 GG82.out (by decide)) (fun _ hk => hk.2) (v133)) (fun _ hk => hk.1.1)⟩
               have n1_ : Aside0 (Kd.S k56 56 (w131.setCell ⟨go82, (t111 : Int).toNat * 3 + 1, none⟩ (v133)) w.heap.size (fun k_ => some k_ ≠ (.slice Ao38 t104.length co38 : Value).ownBlock ∧ some k_ ≠ (.slice Ao119 t117.length co119 : Value).ownBlock ∧ some k_ ≠ (.slice (some ⟨go82, 0, none⟩) t120.length co124 : Value).ownBlock) (.slice Ao42 t107.length co42) t107) := ⟨by refine rS ?_; exact Kd.S_mono (Kd.S_far (p := ⟨go82, (t111 : Int).toNat * 3 + 1, none⟩) (Kd.S_mono HO_111001.1 (fun k_ hk => (⟨hk, fun e_ => hk.2.2.1 (by rw [e_]; rfl)⟩ : _ ∧ k_ ≠ go82))) (fun _ hk => hk.2) (v133)) (fun _ hk => ⟨hk.1.1, ⟨hk.1.2.1, hk.1.2.2.1⟩⟩)⟩
               have n2_ : Aside0 (Kd.R Kd.string 9 (w131.setCell ⟨go82, (t111 : Int).toNat * 3 + 1, none⟩ (v133)) w.heap.size (fun k_ => some k_ ≠ (.slice Ao38 t104.length co38 : Value).ownBlock) (.slice Ao119 t117.length co119) t117) := ⟨by refine rR ?_; exact Kd.R_mono (Kd.R_far (p := ⟨go82, (t111 : Int).toNat * 3 + 1, none⟩) (Kd.R_types HO119.1 GG82.out (by decide)) (fun _ hk => hk.2) (v133)) (fun _ hk => hk.1.1)⟩
               have n3_ : Aside0 (Kd.S k56 56 (w131.setCell ⟨go82, (t111 : Int).toNat * 3 + 1, none⟩ (v133)) w.heap.size (fun k_ => some k_ ≠ (.slice Ao38 t104.length co38 : Value).ownBlock ∧ some k_ ≠ (.slice Ao42 t107.length co42 : Value).ownBlock ∧ some k_ ≠ (.slice Ao119 t117.length co119 : Value).ownBlock) (.slice (some ⟨go82, 0, none⟩) t120.length co124) y135) := ⟨rS HQ132.out⟩
               have n4_ : Aside0 ((w131.setCell ⟨go82, (t111 : Int).toNat * 3 + 1, none⟩ (v133)).heap[gb101]? = some (.cells #[.slice A0_0 l0_0.length c0_0, .slice (some ad112) l0_1.length c0_1] 31 (0, 0))) := ⟨by (with_reducible repeat (first | refine blk_drewN ?_ _ | refine blk_drew ?_ | refine blk_alloc ?_ _)); refine blk_far ?_ (by have h_ := Kd.S_ne HO122.1 BK101.1 (by decide); intro e_; exact h_ (by rw [e_]; rfl)) _; (with_reducible repeat (first | refine blk_drewN ?_ _ | refine blk_drew ?_ | refine blk_alloc ?_ _)); exact BK101.1⟩
               have n5_ : Aside0 ((w131.setCell ⟨go82, (t111 : Int).toNat * 3 + 1, none⟩ (v133)).heap[gb102]? = some (.cells #[.slice none 0 0, .slice none 0 0] 31 (0, 0))) := ⟨by (with_reducible repeat (first | refine blk_drewN ?_ _ | refine blk_drew ?_ | refine blk_alloc ?_ _)); refine blk_far ?_ (by have h_ := Kd.S_ne HO122.1 BK102.1 (by decide); intro e_; exact h_ (by rw [e_]; rfl)) _; (with_reducible repeat (first | refine blk_drewN ?_ _ | refine blk_drew ?_ | refine blk_alloc ?_ _)); exact BK102.1⟩
               have n6_ : Aside0 ((w131.setCell ⟨go82, (t111 : Int).toNat * 3 + 1, none⟩ (v133)).heap[gb110]? = some (.cells #[.slice Ao38 t104.length co38, .slice Ao42 t107.length co42] 31 (0, 0))) := ⟨by (with_reducible repeat (first | refine blk_drewN ?_ _ | refine blk_drew ?_ | refine blk_alloc ?_ _)); refine blk_far ?_ (by have h_ := Kd.S_ne HO122.1 BK110.1 (by decide); intro e_; exact h_ (by rw [e_]; rfl)) _; (with_reducible repeat (first | refine blk_drewN ?_ _ | refine blk_drew ?_ | refine blk_alloc ?_ _)); exact BK110.1⟩
               have n7_ : Aside0 ((w131.setCell ⟨go82, (t111 : Int).toNat * 3 + 1, none⟩ (v133)).heap[gb123]? = some (.cells #[.slice Ao119 t117.length co119, .slice (some ⟨go82, 0, none⟩) t120.length co124] 31 (0, 0))) := ⟨by (with_reducible repeat (first | refine blk_drewN ?_ _ | refine blk_drew ?_ | refine blk_alloc ?_ _)); refine blk_far ?_ (by have h_ := Kd.S_ne HO122.1 BK123.1 (by decide); intro e_; exact h_ (by rw [e_]; rfl)) _; (with_reducible repeat (first | refine blk_drewN ?_ _ | refine blk_drew ?_ | refine blk_alloc ?_ _)); exact BK123.1⟩
               have n8_ : Aside0 (Below w.heap.size w (w131.setCell ⟨go82, (t111 : Int).toNat * 3 + 1, none⟩ (v133))) := ⟨by repeat (first | (with_reducible first | exact HB.1 | apply below_alloc | apply pw_below_drewN | apply below_drew1 | refine below_set ?_ GB82.out | refine below_set ?_ GE101.1 | refine below_set ?_ GE102.1 | refine below_set ?_ GE110.1 | refine below_set ?_ GE123.1) | exact HB.1)⟩
               (try clear HO_111000)
               (try clear HO_111001)
               (try clear HO119)
               (try clear HO122)
               (try clear BK101)
               (try clear BK102)
               (try clear BK110)
               (try clear BK123)
               (try clear HB)
               generalize (w131.setCell ⟨go82, (t111 : Int).toNat * 3 + 1, none⟩ (v133)) = w133 at n0_ n1_ n2_ n3_ n4_ n5_ n6_ n7_ n8_ ⊢
               have HO_111000 := n0_
               have HO_111001 := n1_
               have HO119 := n2_
               have HO122 := n3_
               have BK101 := n4_
               have BK102 := n5_
               have BK110 := n6_
               have BK123 := n7_
               have HB := n8_
               clear n0_ n1_ n2_ n3_ n4_ n5_ n6_ n7_ n8_
               obtain ⟨hcz134_0, hcz134_1, hfz134_0, hfz134_1⟩ := cz2 BK101
               try go_wp2_with (first | ((with_reducible refine gate_callee (f := 36) rfl ?_); refine goesL_ (some 78) rfl rfl Try.func36 (by kernel_rfl) rfl #[.agg #[.slice A0_0 l0_0.length c0_0, .slice (some ad112) l0_1.length c0_1]] rfl (pY54) ?_; (with_reducible refine (impl_ShareSafe.calls k1 _ _ l0_0 _ _ l0_1 true _ ?side1 ?side2 ?side3 ?side4 A83.out).mono ?_); (case side1 => exact pC (Kd.C_below HR0_0.1 HB.1)); (case side2 => exact HC0_0.1); (case side3 => exact pC (Kd.C_below HR0_1.1 HB.1)); (case side4 => exact HC0_1.1); rintro e w135 ⟨rfl, hb⟩; refine ⟨_, rfl, ?_⟩; replace HO_111000 := am (Kd.R_below (pY67) hb); replace HO_111001 := am (Kd.S_below (pY71) hb); replace HO119 := am (Kd.R_below (pY76) hb); replace HO122 := am (Kd.S_below (pY77) hb); replace BK101 := bB pY58 hb; replace BK102 := bB pY59 hb; replace BK110 := bB pY61 hb; replace BK123 := bB pY64 hb; replace HB := bS pY30 hb; (try clear hb); (try clear hb2); (try clear hk); (try clear hi); obtain ⟨hcz136_0, hcz136_1, hfz136_0, hfz136_1⟩ := cz2 BK123) | (go_at_call 36; refine calls_of_args (args' := #[.agg #[.slice Ao119 t117.length co119, .slice (some ⟨go82, 0, none⟩) y135.length co124]]) (by first | (rw [show y135.length = t120.length from (Kd.S_reads' HO122.1).1.symm] <;> rfl) | rfl) ?_; (with_reducible refine (impl_ShareSafe.calls k1 _ _ t117 _ _ y135 false _ ?side1 ?side2 ?side3 ?side4 A85.out).mono ?_); (case side1 => exact pC (Kd.R_reads' HO119.1).2.2); (case side2 => exact (Kd.R_reads' HO119.1).2.1); (case side3 => exact pC (Kd.S_reads' HO122.1).2.2); (case side4 => rw [show y135.length = t120.length from (Kd.S_reads' HO122.1).1.symm]; exact (Kd.S_reads' HO122.1).2.1); rintro e w137 ⟨rfl, hb⟩; replace HO_111000 := am (Kd.R_below (pY67) hb); replace HO_111001 := am (Kd.S_below (pY71) hb); replace HO119 := am (Kd.R_below (pY76) hb); replace HO122 := am (Kd.S_below (pY77) hb); replace BK101 := bB pY58 hb; replace BK102 := bB pY59 hb; replace BK110 := bB pY61 hb; replace BK123 := bB pY64 hb; replace HB := bS pY30 hb; (try clear hb); (try clear hb2); (try clear hk); (try clear hi); have hnb138 := NB110_102.1; have hnc138 := NB102_110.1; obtain ⟨hcz139_0, hcz139_1, hfz139_0, hfz139_1⟩ := cz2 BK110; obtain ⟨hcz140_0, hcz140_1, hfz140_0, hfz140_1⟩ := cz2 BK102))
               refine bodyPost_ret (results_ct rfl _ _ gb102 31 #[.slice Ao38 t104.length co38, .slice Ao42 t107.length co42] (0, 0) _ rfl (by (with_reducible repeat (first | refine blk_drewN ?_ _ | refine blk_drew ?_ | refine blk_alloc ?_ _)); refine blk_put (cs := #[.slice Ao38 t104.length co38, .slice none 0 0]) ?_ 1 _ rfl; (with_reducible repeat (first | refine blk_drewN ?_ _ | refine blk_drew ?_ | refine blk_alloc ?_ _)); refine blk_put (cs := #[.slice none 0 0, .slice none 0 0]) ?_ 0 _ rfl; (with_reducible repeat (first | refine blk_drewN ?_ _ | refine blk_drew ?_ | refine blk_alloc ?_ _)); exact BK102.1) Try.underlying31 rfl (by kernel_rfl)) rfl ?_
               exact ⟨_, _, by first | rfl | (simp [errW_none, errW_some] <;> rfl) | (simp [*, errW_none, errW_some] <;> rfl), by refine rR ?_; exact Kd.R_mono (Kd.R_far (p := ⟨gb102, 1, none⟩) (Kd.R_far (p := ⟨gb102, 0, none⟩) (Kd.R_types HO_111000.1 BK102.1 (by decide)) (fun _ hk => hk.2) (.slice Ao38 t104.length co38)) (fun _ hk => hk.2) (.slice Ao42 t107.length co42)) (fun _ hk => trivial), by refine rS ?_; exact Kd.S_mono (Kd.S_far (p := ⟨gb102, 1, none⟩) (Kd.S_far (p := ⟨gb102, 0, none⟩) (Kd.S_types HO_111001.1 BK102.1 (by decide)) (fun _ hk => hk.2) (.slice Ao38 t104.length co38)) (fun _ hk => hk.2) (.slice Ao42 t107.length co42)) (fun _ hk => hk.1.1), pY30⟩
             ·replace c84 := Bool.eq_false_iff.mpr c84
              subst c84
              replace H := iF H
              simp only [Option.some.injEq, Prod.mk.injEq] at H
              obtain ⟨rfl, rfl, rfl⟩ := H
              have hnb141 := NB101_102.1
              have hnc141 := NB102_101.1
              have hnb142 := NB101_110.1
              have hnc142 := NB110_101.1
              obtain ⟨hcz143_0, hcz143_1, hfz143_0, hfz143_1⟩ := cz2 BK101
              try go_wp2_with (first | ((with_reducible refine gate_callee (f := 90) rfl ?_); refine goesL_ (some 58) rfl rfl Try.func90 (by kernel_rfl) rfl #[.agg #[.slice A0_0 l0_0.length c0_0, .slice (some ad112) l0_1.length c0_1]] rfl (pY54) ?_; (with_reducible refine (impl_copyBook.calls k1 _ _ l0_0 _ _ l0_1 t117 t120 _ ?side1 ?side2 ?side3 ?side4 A74.out).mono ?_); (case side1 => exact pC (Kd.C_below HR0_0.1 HB.1)); (case side2 => exact HC0_0.1); (case side3 => exact pC (Kd.C_below HR0_1.1 HB.1)); (case side4 => exact HC0_1.1); rintro e w144 ⟨v118, v121, rfl, ho0, ho1, hb⟩; refine ⟨_, rfl, ?_⟩; have HO119 := am (Kd.R_lower (Kd.R_new' ho0 (Kd.R_lt (pY67))) (below_size (pY43))); have HO122 := am (Kd.S_lower (Kd.S_new' (Kd.S_new' ho1 (Kd.R_lt (pY67))) (Kd.S_lt (pY71))) (below_size (pY43))); replace HO_111000 := am (Kd.R_elder' (pY67) (Kd.R_base ho0) hb); replace HO_111001 := am (Kd.S_mono (Kd.S_told (Kd.S_told (Kd.S_old (pY71) hb) (Kd.R_base ho0)) (Kd.S_base ho1)) (fun _ h_ => h_.1)); replace BK101 := bB pY58 hb; replace BK102 := bB pY59 hb; replace BK110 := bB pY61 hb; replace HB := bS pY43 hb; (try clear hb); (try clear hb2); (try clear hk); (try clear hi); (try clear ho0); (try clear ho1)) | (refine bX 12 #[.slice none 0 0, .slice none 0 0] 31 ?_; intro gb123 hg w145 hbox hb; replace HO_111000 := am (Kd.R_below (pY67) hb); replace HO_111001 := am (Kd.S_below (pY71) hb); replace HO119 := am (Kd.R_below (pY76) hb); replace HO122 := am (Kd.S_below (pY77) hb); have BK123 := am (hbox); have GW123 := am (pY26 : w.heap.size ≤ gb123); have GE123 := am (pY26 : w.heap.size ≤ gb123); replace HB := bS pY43 hb; have NB101_123 := nL pY58 hg; have NB123_101 := nG pY58 hg; replace BK101 := bB pY58 hb; have NB102_123 := nL pY59 hg; have NB123_102 := nG pY59 hg; replace BK102 := bB pY59 hb; have NB110_123 := nL pY61 hg; have NB123_110 := nG pY61 hg; replace BK110 := bB pY61 hb; clear hb hbox hg; obtain ⟨Ao146, co146, eo146⟩ := Kd.R_slice HO119.1; subst eo146; have hnb147 := NB123_101.1; have hnc147 := NB101_123.1; have hnb148 := NB123_102.1; have hnc148 := NB102_123.1; have hnb149 := NB123_110.1; have hnc149 := NB110_123.1; obtain ⟨hcz150_0, hcz150_1, hfz150_0, hfz150_1⟩ := cz2 BK123; obtain ⟨Ao151, co151, eo151⟩ := Kd.S_slice HO122.1; subst eo151; obtain ⟨hcz152_0, hcz152_1, hfz152_0, hfz152_1⟩ := cz2 BK101; have p124 : 0 ≤ (t111 : Int) := of_decide_eq_true (pY82); have q124 : t111 < (l0_1.length : Int) := of_decide_eq_true (pY82); obtain ⟨ad124, A124_1, c124_1, A124_2, c124_2, e124, hx124_0, hx124_1, hx124_2, hl124_1, hi124_1, hl124_2, hi124_2⟩ := at_T56 HR0_1.1 t111 p124 q124; obtain rfl : ad112 = ad124 := (by injection e124); have hn124_0 : ad112.block ≠ gb123 := Nat.ne_of_lt (Nat.lt_of_lt_of_le (by have := World.block_lt_of_cell? _ _ hx124_0; first | rwa [add_block] at this | exact this) GW123.out); have hn124_1 : ad112.block ≠ gb123 := Nat.ne_of_lt (Nat.lt_of_lt_of_le (by have := World.block_lt_of_cell? _ _ hx124_0; first | rwa [add_block] at this | exact this) GW123.out); replace hx124_0 := hX HB hx124_0; replace hx124_1 := hX HB hx124_1; replace hx124_2 := hX HB hx124_2; have HR124_1 := am hi124_1; have HC124_1 := am hl124_1; clear hi124_1 hl124_1; have HR124_2 := am hi124_2; have HC124_2 := am hl124_2; clear hi124_2 hl124_2; replace hx124_0 := (cell_far (p := ⟨gb123, 0, none⟩) (pY56) (.slice Ao146 t117.length co146)).trans hx124_0; replace hx124_1 := (cell_far (p := ⟨gb123, 0, none⟩) (pY56) (.slice Ao146 t117.length co146)).trans hx124_1; replace hx124_2 := (cell_far (p := ⟨gb123, 0, none⟩) (pY56) (.slice Ao146 t117.length co146)).trans hx124_2; replace hx124_0 := (cell_far (p := ⟨gb123, 1, none⟩) (pY57) (.slice Ao151 t120.length co151)).trans hx124_0; replace hx124_1 := (cell_far (p := ⟨gb123, 1, none⟩) (pY57) (.slice Ao151 t120.length co151)).trans hx124_1; replace hx124_2 := (cell_far (p := ⟨gb123, 1, none⟩) (pY57) (.slice Ao151 t120.length co151)).trans hx124_2; clear hn124_0; clear hn124_1; replace p124 := eq_true p124; replace q124 := eq_true q124) | ((with_reducible refine gate_callee (f := 94) rfl ?_); refine goesL_ (some 65) rfl rfl Try.func94 (by kernel_rfl) rfl #[.slice A124_1 ((rd_T56 l0_1 t111).f1).length c124_1] rfl (pY54) ?_; (with_reducible refine (slices_Clone_string_string.calls _ _ ((rd_T56 l0_1 t111).f1) t125 _ ?side1 ?side2 A77.out).mono ?_); (case side1 => exact Kd.C_below HR124_1.1 (pY30)); (case side2 => exact HC124_1.1); rintro e w153 ⟨v126, rfl, ho0, hb⟩; refine ⟨_, rfl, ?_⟩; replace HO_111001 := am (Kd.S_elder' (by refine rS ?_; exact (Kd.S_mono (Kd.S_far (p := ⟨gb123, 1, none⟩) (Kd.S_far (p := ⟨gb123, 0, none⟩) (Kd.S_types HO_111001.1 BK123.1 (by decide)) (fun _ hk => hk.2) (.slice Ao146 t117.length co146)) (fun _ hk => hk.2) (.slice Ao151 t120.length co151)) (fun _ h_ => h_.1))) (Kd.R_base ho0) hb); replace HO122 := am (Kd.S_elder' (by refine rS ?_; exact (Kd.S_mono (Kd.S_far (p := ⟨gb123, 1, none⟩) (Kd.S_far (p := ⟨gb123, 0, none⟩) (Kd.S_types HO122.1 BK123.1 (by decide)) (fun _ hk => hk.2) (.slice Ao146 t117.length co146)) (fun _ hk => hk.2) (.slice Ao151 t120.length co151)) (fun _ h_ => h_.1))) (Kd.R_base ho0) hb); have HO127 := am (Kd.R_lower (Kd.R_new' (Kd.R_new' ho0 (Kd.R_lt (by refine rR ?_; exact (Kd.R_mono (Kd.R_far (p := ⟨gb123, 1, none⟩) (Kd.R_far (p := ⟨gb123, 0, none⟩) (Kd.R_types HO_111000.1 BK123.1 (by decide)) (fun _ hk => hk.2) (.slice Ao146 t117.length co146)) (fun _ hk => hk.2) (.slice Ao151 t120.length co151)) (fun _ h_ => h_.1))))) (Kd.R_lt (by refine rR ?_; exact (Kd.R_mono (Kd.R_far (p := ⟨gb123, 1, none⟩) (Kd.R_far (p := ⟨gb123, 0, none⟩) (Kd.R_types HO119.1 BK123.1 (by decide)) (fun _ hk => hk.2) (.slice Ao146 t117.length co146)) (fun _ hk => hk.2) (.slice Ao151 t120.length co151)) (fun _ h_ => h_.1))))) (below_size (pY30))); replace HO_111000 := am (Kd.R_elder' (by refine rR ?_; exact (Kd.R_mono (Kd.R_far (p := ⟨gb123, 1, none⟩) (Kd.R_far (p := ⟨gb123, 0, none⟩) (Kd.R_types HO_111000.1 BK123.1 (by decide)) (fun _ hk => hk.2) (.slice Ao146 t117.length co146)) (fun _ hk => hk.2) (.slice Ao151 t120.length co151)) (fun _ h_ => h_.1))) (Kd.R_base ho0) hb); replace HO119 := am (Kd.R_elder' (by refine rR ?_; exact (Kd.R_mono (Kd.R_far (p := ⟨gb123, 1, none⟩) (Kd.R_far (p := ⟨gb123, 0, none⟩) (Kd.R_types HO119.1 BK123.1 (by decide)) (fun _ hk => hk.2) (.slice Ao146 t117.length co146)) (fun _ hk => hk.2) (.slice Ao151 t120.length co151)) (fun _ h_ => h_.1))) (Kd.R_base ho0) hb); replace BK101 := am (blk_below (g := gb101) (o := .cells #[.slice A0_0 l0_0.length c0_0, .slice (some ad112) l0_1.length c0_1] 31 (0, 0)) (pY12) hb); replace BK102 := am (blk_below (g := gb102) (o := .cells #[.slice none 0 0, .slice none 0 0] 31 (0, 0)) (pY13) hb); replace BK110 := am (blk_below (g := gb110) (o := .cells #[.slice Ao38 t104.length co38, .slice Ao42 t107.length co42] 31 (0, 0)) (pY14) hb); replace BK123 := am (blk_below (g := gb123) (o := .cells #[.slice Ao146 t117.length co146, .slice Ao151 t120.length co151] 31 (0, 0)) (by (with_reducible repeat (first | refine blk_drewN ?_ _ | refine blk_drew ?_ | refine blk_alloc ?_ _)); refine blk_put (cs := #[.slice Ao146 t117.length co146, .slice none 0 0]) ?_ 1 _ rfl; (with_reducible repeat (first | refine blk_drewN ?_ _ | refine blk_drew ?_ | refine blk_alloc ?_ _)); refine blk_put (cs := #[.slice none 0 0, .slice none 0 0]) ?_ 0 _ rfl; (with_reducible repeat (first | refine blk_drewN ?_ _ | refine blk_drew ?_ | refine blk_alloc ?_ _)); exact BK123.1) hb); replace HB := bS pY30 hb; (try clear hb); (try clear hb2); (try clear hk); (try clear hi); (try clear ho0)) | ((with_reducible refine gate_builtin (b := .append) (xs := #[.tmp 65, .tmp 66]) rfl ?_); at_builtin; refine Kd.R_append_rows Kd.string (w0 := w) w.heap.size rfl (.tmp 65) (.tmp 66) 23 9 (.string ⟨#[]⟩) 16 rfl Try.underlying23 info9 rfl (by decide) (by omega) v126 t125 l2 _ _ _ (fun k_ => some k_ ≠ (.slice Ao38 t104.length co38 : Value).ownBlock ∧ some k_ ≠ (.slice Ao146 t117.length co146 : Value).ownBlock) (fun _ => False) rfl rfl ?aO ?aR (fun _ _ h => h) (fun _ h => h.elim) ?aF ?aB ?aS ?aL ?_; (case aR => repeat (first | exact (Kd.C_below HR2.1 HB.1) | (with_reducible refine Kd.C_alloc ?_ _) | (with_reducible refine Kd.C_drewN ?_ _) | (with_reducible refine Kd.C_drew ?_))); (case aB => exact (pY30)); (case aF => exact (fun k_ hk => ⟨Kd.fresh' (Kd.R_lt (pY67)) k_ hk, Kd.fresh' (Kd.R_lt (pY76)) k_ hk⟩)); (case aO => exact (by refine rR ?_; exact Kd.R_mono HO127.1 (fun _ hk => ⟨hk.1.2, hk.2⟩))); (case aS => exact (below_size (pY30))); (case aL => have := LMc78.out; omega); intro v129 w154 ho hb hg hat; rw [← Ny128.out] at ho; replace HO_111000 := am (Kd.R_after (ok := (fun k_ => some k_ ≠ (.slice Ao146 t117.length co146 : Value).ownBlock)) (by refine rR ?_; exact Kd.R_mono HO_111000.1 (fun _ hk => ⟨hk.1.2, hk.2⟩)) hg hat); replace HO_111001 := am (Kd.S_after (ok := (fun k_ => some k_ ≠ (.slice Ao38 t104.length co38 : Value).ownBlock ∧ some k_ ≠ (.slice Ao146 t117.length co146 : Value).ownBlock ∧ some k_ ≠ (.slice Ao151 t120.length co151 : Value).ownBlock)) (by refine rS ?_; exact Kd.S_mono HO_111001.1 (fun _ hk => ⟨⟨hk.1.1.1, ⟨hk.1.1.2, hk.1.2⟩⟩, hk.2⟩)) hg hat); replace BK101 := am (blk_grown (g := gb101) (o := .cells #[.slice A0_0 l0_0.length c0_0, .slice (some ad112) l0_1.length c0_1] 31 (0, 0)) (pY58) hg (Kd.R_ne HO127.1 BK101.1 (by decide))); replace BK102 := am (blk_grown (g := gb102) (o := .cells #[.slice none 0 0, .slice none 0 0] 31 (0, 0)) (pY59) hg (Kd.R_ne HO127.1 BK102.1 (by decide))); replace BK110 := am (blk_grown (g := gb110) (o := .cells #[.slice Ao38 t104.length co38, .slice Ao42 t107.length co42] 31 (0, 0)) (pY61) hg (Kd.R_ne HO127.1 BK110.1 (by decide))); replace HO119 := am (Kd.R_after (ok := (fun k_ => some k_ ≠ (.slice Ao38 t104.length co38 : Value).ownBlock)) (by refine rR ?_; exact Kd.R_mono HO119.1 (fun _ hk => ⟨hk.1.2, hk.2⟩)) hg hat); replace HO122 := am (Kd.S_after (ok := (fun k_ => some k_ ≠ (.slice Ao38 t104.length co38 : Value).ownBlock ∧ some k_ ≠ (.slice Ao42 t107.length co42 : Value).ownBlock ∧ some k_ ≠ (.slice Ao146 t117.length co146 : Value).ownBlock)) (by refine rS ?_; exact Kd.S_mono HO122.1 (fun _ hk => ⟨⟨hk.1.1.2, ⟨hk.1.2, hk.1.1.1⟩⟩, hk.2⟩)) hg hat); replace BK123 := am (blk_grown (g := gb123) (o := .cells #[.slice Ao146 t117.length co146, .slice Ao151 t120.length co151] 31 (0, 0)) (pY64) hg (Kd.R_ne HO127.1 BK123.1 (by decide))); replace HB := am (hb); have HO130 := am (ho); clear HO127; clear ho hb hg hat; obtain ⟨Ao155, co155, eo155⟩ := Kd.R_slice HO130.1; subst eo155) | ((with_reducible refine gate_callee (f := 107) rfl ?_); refine goesL_ (some 69) rfl rfl Try.func107 (by kernel_rfl) rfl #[.slice Ao155 y128.length co155] rfl (pY54) ?_; (with_reducible refine (sort_Strings.calls (fun k_ => some k_ = (.slice Ao155 y128.length co155 : Value).ownBlock) (.slice Ao155 y128.length co155) y128 t131 w _ ?side1 ?side2 A79.out).mono ?_); (case side1 => repeat (first | (with_reducible first | exact HB.1 | apply below_alloc | apply pw_below_drewN | apply below_drew1 | refine below_set ?_ GE101.1 | refine below_set ?_ GE102.1 | refine below_set ?_ GE110.1 | refine below_set ?_ GE123.1) | exact HB.1)); (case side2 => exact Kd.R_tight rfl HO130.1); rintro e w156 ⟨rfl, hy0, hb, hkp⟩; refine ⟨_, rfl, ?_⟩; replace HO_111000 := am (Kd.R_mono (ok' := fun k_ => some k_ ≠ (.slice Ao146 t117.length co146 : Value).ownBlock ∧ some k_ ≠ (.slice Ao155 y128.length co155 : Value).ownBlock) (Kd.R_keptB (HO_111000.1) hkp (fun k_ hk_ hs_ => (hk_.2) hs_)) (fun k_ hk_ => ⟨hk_.1.1, hk_.1.2⟩)); replace HO_111001 := am (Kd.S_mono (ok' := fun k_ => some k_ ≠ (.slice Ao38 t104.length co38 : Value).ownBlock ∧ some k_ ≠ (.slice Ao146 t117.length co146 : Value).ownBlock ∧ some k_ ≠ (.slice Ao151 t120.length co151 : Value).ownBlock ∧ some k_ ≠ (.slice Ao155 y128.length co155 : Value).ownBlock) (Kd.S_keptB (HO_111001.1) hkp (fun k_ hk_ hs_ => (hk_.2) hs_)) (fun k_ hk_ => ⟨hk_.1.1.1, hk_.1.1.2.1, hk_.1.1.2.2, hk_.1.2⟩)); replace BK101 := am (blk_kept (pY58) hkp (fun hs_ => (fun e_ => (Kd.R_ne HO130.1 BK101.1 (by decide)) e_) hs_)); replace BK102 := am (blk_kept (pY59) hkp (fun hs_ => (fun e_ => (Kd.R_ne HO130.1 BK102.1 (by decide)) e_) hs_)); replace BK110 := am (blk_kept (pY61) hkp (fun hs_ => (fun e_ => (Kd.R_ne HO130.1 BK110.1 (by decide)) e_) hs_)); replace HO119 := am (Kd.R_mono (ok' := fun k_ => some k_ ≠ (.slice Ao38 t104.length co38 : Value).ownBlock ∧ some k_ ≠ (.slice Ao155 y128.length co155 : Value).ownBlock) (Kd.R_keptB (HO119.1) hkp (fun k_ hk_ hs_ => (hk_.2) hs_)) (fun k_ hk_ => ⟨hk_.1.1, hk_.1.2⟩)); replace HO122 := am (Kd.S_mono (ok' := fun k_ => some k_ ≠ (.slice Ao38 t104.length co38 : Value).ownBlock ∧ some k_ ≠ (.slice Ao42 t107.length co42 : Value).ownBlock ∧ some k_ ≠ (.slice Ao146 t117.length co146 : Value).ownBlock ∧ some k_ ≠ (.slice Ao155 y128.length co155 : Value).ownBlock) (Kd.S_keptB (HO122.1) hkp (fun k_ hk_ hs_ => (hk_.2) hs_)) (fun k_ hk_ => ⟨hk_.1.1.1, hk_.1.1.2.1, hk_.1.1.2.2, hk_.1.2⟩)); replace BK123 := am (blk_kept (pY64) hkp (fun hs_ => (fun e_ => (Kd.R_ne HO130.1 BK123.1 (by decide)) e_) hs_)); replace HO130 := am (Kd.R_reok rfl hy0 (fun k_ e_ => HO130.1.1 k_ e_)); replace HB := am (hb); (try clear hb); (try clear hkp); (try clear hy0)))
              replace HO_111000 := am (Kd.R_drew HO_111000.1)
              replace HO_111001 := am (Kd.S_drew HO_111001.1)
              replace HO119 := am (Kd.R_drew HO119.1)
              replace HO122 := am (Kd.S_drew HO122.1)
              replace HO130 := am (Kd.R_drew HO130.1)
              replace BK101 := am (blk_drew BK101.1)
              replace BK102 := am (blk_drew BK102.1)
              replace BK110 := am (blk_drew BK110.1)
              replace BK123 := am (blk_drew BK123.1)
              replace HB := am (below_drew1 HB.1)
              refine sT [7] 8 (uA2 BK123) (fun hHeld => ?_); refine with_tabW impl_ShareAsk.tab18 impl_ShareAsk.bits18 (fun HT_ HW_ => ?_)
              generalize w156.drew = w157 at HO_111000 HO_111001 HO119 HO122 HO130 BK101 BK102 BK110 BK123 HB hHeld ⊢
              refine pU 0 (some 70) ?_
              refine pU 2 (some 72) ?_
              refine pU 3 (some 73) ?_
              refine tK2 1 (some 71) ?_
              refine oN 4 (some 74) fun K hK => ?_
              refine goes_ Try.func108 (by kernel_rfl) rfl #[.slice Ao155 y128.length co155] (by rfl) rfl rfl (pY54) ?_
              with_reducible refine (slices_Compact_string_string.calls (fun k_ => some k_ = (.slice Ao155 y128.length co155 : Value).ownBlock) (.slice Ao155 y128.length co155) t131 t132 w _ ?side1 ?side2 A80.out).mono ?_
              (case side1 => repeat (first | (with_reducible first | exact HB.1 | apply below_alloc | apply pw_below_drewN | apply below_drew1 | refine below_set ?_ GE101.1 | refine below_set ?_ GE102.1 | refine below_set ?_ GE110.1 | refine below_set ?_ GE123.1) | exact HB.1))
              (case side2 => exact Kd.R_tight rfl HO130.1)
              rintro e w158 ⟨v133, rfl, ho0, hb, hkp⟩
              refine ⟨_, rfl, ?_⟩
              replace HO_111001 := am (Kd.S_mono (ok' := fun k_ => some k_ ≠ (.slice Ao38 t104.length co38 : Value).ownBlock ∧ some k_ ≠ (.slice Ao146 t117.length co146 : Value).ownBlock ∧ some k_ ≠ (.slice Ao151 t120.length co151 : Value).ownBlock ∧ some k_ ≠ (v133 : Value).ownBlock) (Kd.S_keptB (HO_111001.1) hkp (fun k_ hk_ hs_ => (hk_.2.2.2) hs_)) (fun k_ hk_ => ⟨hk_.1.1, hk_.1.2.1, hk_.1.2.2.1, fun e_ => Or.elim (ho0.1 k_ e_.symm) (fun hs_ => hk_.2.1 hs_) (fun hn_ => Nat.not_le.2 hk_.2.2 hn_)⟩))
              replace BK101 := am (blk_kept (pY58) hkp (fun hs_ => (fun e_ => (Kd.R_ne HO130.1 BK101.1 (by decide)) e_) hs_))
              replace BK102 := am (blk_kept (pY59) hkp (fun hs_ => (fun e_ => (Kd.R_ne HO130.1 BK102.1 (by decide)) e_) hs_))
              replace BK110 := am (blk_kept (pY61) hkp (fun hs_ => (fun e_ => (Kd.R_ne HO130.1 BK110.1 (by decide)) e_) hs_))
              replace HO122 := am (Kd.S_mono (ok' := fun k_ => some k_ ≠ (.slice Ao38 t104.length co38 : Value).ownBlock ∧ some k_ ≠ (.slice Ao42 t107.length co42 : Value).ownBlock ∧ some k_ ≠ (.slice Ao146 t117.length co146 : Value).ownBlock ∧ some k_ ≠ (v133 : Value).ownBlock) (Kd.S_keptB (HO122.1) hkp (fun k_ hk_ hs_ => (hk_.2.2.2) hs_)) (fun k_ hk_ => ⟨hk_.1.1, hk_.1.2.1, hk_.1.2.2.1, fun e_ => Or.elim (ho0.1 k_ e_.symm) (fun hs_ => hk_.2.1 hs_) (fun hn_ => Nat.not_le.2 hk_.2.2 hn_)⟩))
              replace BK123 := am (blk_kept (pY64) hkp (fun hs_ => (fun e_ => (Kd.R_ne HO130.1 BK123.1 (by decide)) e_) hs_))
              have HO134 := am (Kd.R_mono (ok' := fun k_ => some k_ ≠ (.slice Ao38 t104.length co38 : Value).ownBlock ∧ some k_ ≠ (.slice Ao146 t117.length co146 : Value).ownBlock) ho0 (fun k_ hk_ => ⟨Or.elim hk_ (fun hs_ => fun e_ => (((HO_111000.1).1 k_ e_.symm).2) hs_) (fun hn_ => (Kd.fresh' (Kd.R_lt (pY67)) k_ hn_)), Or.elim hk_ (fun hs_ => fun e_ => (((HO119.1).1 k_ e_.symm).2) hs_) (fun hn_ => (Kd.fresh' (Kd.R_lt (pY76)) k_ hn_))⟩))
              replace HO_111000 := am (Kd.R_mono (ok' := fun k_ => some k_ ≠ (.slice Ao146 t117.length co146 : Value).ownBlock ∧ some k_ ≠ (v133 : Value).ownBlock) (Kd.R_keptB (HO_111000.1) hkp (fun k_ hk_ hs_ => (hk_.2) hs_)) (fun k_ hk_ => ⟨hk_.1.1, fun e_ => Or.elim (ho0.1 k_ e_.symm) (fun hs_ => hk_.2.1 hs_) (fun hn_ => Nat.not_le.2 hk_.2.2 hn_)⟩))
              replace HO119 := am (Kd.R_mono (ok' := fun k_ => some k_ ≠ (.slice Ao38 t104.length co38 : Value).ownBlock ∧ some k_ ≠ (v133 : Value).ownBlock) (Kd.R_keptB (HO119.1) hkp (fun k_ hk_ hs_ => (hk_.2) hs_)) (fun k_ hk_ => ⟨hk_.1.1, fun e_ => Or.elim (ho0.1 k_ e_.symm) (fun hs_ => hk_.2.1 hs_) (fun hn_ => Nat.not_le.2 hk_.2.2 hn_)⟩))
              replace HB := am (hb)
              clear HO130
              (try clear hb)
              (try clear hkp)
              (try clear ho0)
              have p82 : 0 ≤ (t111 : Int) := of_decide_eq_true (pY82)
              have q82 : (t111 : Int) < ((t120.length : Int) : Int) := of_decide_eq_true (pY82)
              obtain ⟨go82, co82, eo82, gb82, gl82, cl82, HG82⟩ := Kd.S_form HO122.1 (by omega)
              (first | cases eo82 | (injection eo82 with ea_ en_ ec_; (first | subst ea_ | (injection ea_ with ea_; subst ea_)); subst ec_; clear en_))
              have GB82 := am gb82
              have GG82 := am HG82
              clear gb82 gl82 HG82
              obtain ⟨_, ce82, hcl82, hM82, hcc82, hfr82, _, _⟩ := Kd.S_elem HO122.1 z56 (t111 : Int) p82 q82
              obtain ⟨ve82_1, ve82_2, rfl, ge82_1, ge82_2⟩ := k56_openM hM82
              have hx82_0 : World.cell? _ ⟨go82, (t111 : Int).toNat * 3, none⟩ = some (.string ((rd_T56 t120 t111).f0)) := hcc82 0 _ rfl
              have hx82_1 : World.cell? _ ⟨go82, (t111 : Int).toNat * 3 + 1, none⟩ = some (ve82_1) := hcc82 1 _ rfl
              have hx82_2 : World.cell? _ ⟨go82, (t111 : Int).toNat * 3 + 2, none⟩ = some (ve82_2) := hcc82 2 _ rfl
              have hf82_0 : World.frozen? _ ⟨go82, (t111 : Int).toNat * 3, none⟩ = false := hfr82 0
              have hf82_1 : World.frozen? _ ⟨go82, (t111 : Int).toNat * 3 + 1, none⟩ = false := hfr82 1
              have hf82_2 : World.frozen? _ ⟨go82, (t111 : Int).toNat * 3 + 2, none⟩ = false := hfr82 2
              clear hcl82 hcc82 hfr82 hM82
              replace p82 := eq_true p82
              replace q82 := eq_true q82
              have HX159 := am (show Kd.S k56 56 w158 w.heap.size (fun k_ => ((fun k_ => some k_ ≠ (.slice Ao38 t104.length co38 : Value).ownBlock ∧ some k_ ≠ (.slice Ao42 t107.length co42 : Value).ownBlock ∧ some k_ ≠ (.slice Ao146 t117.length co146 : Value).ownBlock)) k_ ∧ ¬ ((fun k_ => some k_ = (v133 : Value).ownBlock)) k_) (.slice (some ⟨go82, 0, none⟩) t120.length co151) t120 from (by refine rS ?_; exact Kd.S_mono HO122.1 (fun k_ hk => ⟨⟨hk.1, ⟨hk.2.1, hk.2.2.1⟩⟩, fun e_ => hk.2.2.2 e_⟩)))
              obtain ⟨oki159, ce159, hcl159, hM159, hcc159, hfr159, hoki159, hH159⟩ := Kd.S_elem HX159.out z56 (t111 : Int) (of_decide_eq_true (pY82)) (by have h_ : (t111 : Int) < ((t120.length : Int) : Int) := of_decide_eq_true (pY82); first | exact h_ | (have e_ := (Kd.S_reads' HO122.1).1; omega) | simpa using h_)
              obtain ⟨ve159_1, ve159_2, rfl, ge159_1, ge159_2⟩ := k56_openM hM159
              have HP159 := (Kd.S_seg hH159 (of_decide_eq_true (pY82)) (by have h_ : (t111 : Int) < ((t120.length : Int) : Int) := of_decide_eq_true (pY82); first | exact h_ | (have e_ := (Kd.S_reads' HO122.1).1; omega) | simpa using h_) (seg := [v133]) (j := 1) (show 2 ≤ 3 from by decide) (x' := (⟨(rd_T56 t120 t111).f0, t132, (rd_T56 t120 t111).f2⟩ : S56)) (k56_mkM _ _ _ (⟨(rd_T56 t120 t111).f0, t132, (rd_T56 t120 t111).f2⟩ : S56) (Kd.R_mono (Kd.R_tight rfl (Kd.R_mono (ok' := fun k_ => ((fun k_ => some k_ ≠ (.slice Ao38 t104.length co38 : Value).ownBlock ∧ some k_ ≠ (.slice Ao42 t107.length co42 : Value).ownBlock ∧ some k_ ≠ (.slice Ao146 t117.length co146 : Value).ownBlock)) k_ ∧ k_ ≠ go82) (Kd.R_apart' (Kd.R_apart' (HO134.1) (Kd.S_typed HO_111001.1) (by decide)) (Kd.S_typed HO122.1) (by decide)) (fun k_ hk => ⟨⟨hk.1.1.1, ⟨hk.1.2, hk.1.1.2⟩⟩, fun e_ => (hk.2) (by rw [e_]; rfl)⟩))) (fun _ h_ => Or.inr (h_))) (Kd.R_mono ge159_2 (fun _ h_ => Or.inl h_)) (fun k_ e1_ e2_ => (hoki159 k_ (ge159_2.1 k_ e2_)).1.2 e1_.symm)) (fun _ hk => hk) (fun k_ hk_ => ((Kd.R_mono (ok' := fun k_ => ((fun k_ => some k_ ≠ (.slice Ao38 t104.length co38 : Value).ownBlock ∧ some k_ ≠ (.slice Ao42 t107.length co42 : Value).ownBlock ∧ some k_ ≠ (.slice Ao146 t117.length co146 : Value).ownBlock)) k_ ∧ k_ ≠ go82) (Kd.R_apart' (Kd.R_apart' (HO134.1) (Kd.S_typed HO_111001.1) (by decide)) (Kd.S_typed HO122.1) (by decide)) (fun k_ hk => ⟨⟨hk.1.1.1, ⟨hk.1.2, hk.1.1.2⟩⟩, fun e_ => (hk.2) (by rw [e_]; rfl)⟩))).1 k_ hk_.symm)).1
              rw [← Ny135.out] at HP159
              have HQ159 := am HP159
              clear hcl159 hcc159 hfr159 hM159 HP159
              refine hK.out _ _ (uA2 BK123).1 (fun hHeld => ?_)
              clear hK K
              refine nM ?_
              refine pU 5 (some 75) ?_
              refine pU 6 (some 76) ?_
              refine last_ (i := 7) (N := none) (bz 8 255) rfl rfl (one_of HT_.out (by kernel_rfl)) (by decide) (fun K hK => ?_)
              refine skip_ (w1 := (w158.setCell ⟨go82, (t111 : Int).toNat * 3 + 1, none⟩ (v133))) (by rfl) rfl ?_ ?_
              skip
              ·obtain ⟨Az_, cz_, ez_⟩ := Kd.R_slice HO134.1
               subst ez_
               go_simp
               (try rfl)
              refine hK.out _ _ ?_
              clear hK K
              refine done_ (done_of HT_.out (by kernel_rfl)) ?_
              have n0_ : Aside0 (Kd.R Kd.string 9 (w158.setCell ⟨go82, (t111 : Int).toNat * 3 + 1, none⟩ (v133)) w.heap.size (fun k_ => some k_ ≠ (.slice Ao146 t117.length co146 : Value).ownBlock) (.slice Ao38 t104.length co38) t104) := ⟨by refine rR ?_; exact Kd.R_mono (Kd.R_far (p := ⟨go82, (t111 : Int).toNat * 3 + 1, none⟩) (Kd.R_types HO_111000.1 GG82.out (by decide)) (fun _ hk => hk.2) (v133)) (fun _ hk => hk.1.1)⟩
              have n1_ : Aside0 (Kd.S k56 56 (w158.setCell ⟨go82, (t111 : Int).toNat * 3 + 1, none⟩ (v133)) w.heap.size (fun k_ => some k_ ≠ (.slice Ao38 t104.length co38 : Value).ownBlock ∧ some k_ ≠ (.slice Ao146 t117.length co146 : Value).ownBlock ∧ some k_ ≠ (.slice (some ⟨go82, 0, none⟩) t120.length co151 : Value).ownBlock) (.slice Ao42 t107.length co42) t107) := ⟨by refine rS ?_; exact Kd.S_mono (Kd.S_far (p := ⟨go82, (t111 : Int).toNat * 3 + 1, none⟩) (Kd.S_mono HO_111001.1 (fun k_ hk => (⟨hk, fun e_ => hk.2.2.1 (by rw [e_]; rfl)⟩ : _ ∧ k_ ≠ go82))) (fun _ hk => hk.2) (v133)) (fun _ hk => ⟨hk.1.1, ⟨hk.1.2.1, hk.1.2.2.1⟩⟩)⟩
              have n2_ : Aside0 (Kd.R Kd.string 9 (w158.setCell ⟨go82, (t111 : Int).toNat * 3 + 1, none⟩ (v133)) w.heap.size (fun k_ => some k_ ≠ (.slice Ao38 t104.length co38 : Value).ownBlock) (.slice Ao146 t117.length co146) t117) := ⟨by refine rR ?_; exact Kd.R_mono (Kd.R_far (p := ⟨go82, (t111 : Int).toNat * 3 + 1, none⟩) (Kd.R_types HO119.1 GG82.out (by decide)) (fun _ hk => hk.2) (v133)) (fun _ hk => hk.1.1)⟩
              have n3_ : Aside0 (Kd.S k56 56 (w158.setCell ⟨go82, (t111 : Int).toNat * 3 + 1, none⟩ (v133)) w.heap.size (fun k_ => some k_ ≠ (.slice Ao38 t104.length co38 : Value).ownBlock ∧ some k_ ≠ (.slice Ao42 t107.length co42 : Value).ownBlock ∧ some k_ ≠ (.slice Ao146 t117.length co146 : Value).ownBlock) (.slice (some ⟨go82, 0, none⟩) t120.length co151) y135) := ⟨rS HQ159.out⟩
              have n4_ : Aside0 ((w158.setCell ⟨go82, (t111 : Int).toNat * 3 + 1, none⟩ (v133)).heap[gb101]? = some (.cells #[.slice A0_0 l0_0.length c0_0, .slice (some ad112) l0_1.length c0_1] 31 (0, 0))) := ⟨by (with_reducible repeat (first | refine blk_drewN ?_ _ | refine blk_drew ?_ | refine blk_alloc ?_ _)); refine blk_far ?_ (by have h_ := Kd.S_ne HO122.1 BK101.1 (by decide); intro e_; exact h_ (by rw [e_]; rfl)) _; (with_reducible repeat (first | refine blk_drewN ?_ _ | refine blk_drew ?_ | refine blk_alloc ?_ _)); exact BK101.1⟩
              have n5_ : Aside0 ((w158.setCell ⟨go82, (t111 : Int).toNat * 3 + 1, none⟩ (v133)).heap[gb102]? = some (.cells #[.slice none 0 0, .slice none 0 0] 31 (0, 0))) := ⟨by (with_reducible repeat (first | refine blk_drewN ?_ _ | refine blk_drew ?_ | refine blk_alloc ?_ _)); refine blk_far ?_ (by have h_ := Kd.S_ne HO122.1 BK102.1 (by decide); intro e_; exact h_ (by rw [e_]; rfl)) _; (with_reducible repeat (first | refine blk_drewN ?_ _ | refine blk_drew ?_ | refine blk_alloc ?_ _)); exact BK102.1⟩
              have n6_ : Aside0 ((w158.setCell ⟨go82, (t111 : Int).toNat * 3 + 1, none⟩ (v133)).heap[gb110]? = some (.cells #[.slice Ao38 t104.length co38, .slice Ao42 t107.length co42] 31 (0, 0))) := ⟨by (with_reducible repeat (first | refine blk_drewN ?_ _ | refine blk_drew ?_ | refine blk_alloc ?_ _)); refine blk_far ?_ (by have h_ := Kd.S_ne HO122.1 BK110.1 (by decide); intro e_; exact h_ (by rw [e_]; rfl)) _; (with_reducible repeat (first | refine blk_drewN ?_ _ | refine blk_drew ?_ | refine blk_alloc ?_ _)); exact BK110.1⟩
              have n7_ : Aside0 ((w158.setCell ⟨go82, (t111 : Int).toNat * 3 + 1, none⟩ (v133)).heap[gb123]? = some (.cells #[.slice Ao146 t117.length co146, .slice (some ⟨go82, 0, none⟩) t120.length co151] 31 (0, 0))) := ⟨by (with_reducible repeat (first | refine blk_drewN ?_ _ | refine blk_drew ?_ | refine blk_alloc ?_ _)); refine blk_far ?_ (by have h_ := Kd.S_ne HO122.1 BK123.1 (by decide); intro e_; exact h_ (by rw [e_]; rfl)) _; (with_reducible repeat (first | refine blk_drewN ?_ _ | refine blk_drew ?_ | refine blk_alloc ?_ _)); exact BK123.1⟩
              have n8_ : Aside0 (Below w.heap.size w (w158.setCell ⟨go82, (t111 : Int).toNat * 3 + 1, none⟩ (v133))) := ⟨by repeat (first | (with_reducible first | exact HB.1 | apply below_alloc | apply pw_below_drewN | apply below_drew1 | refine below_set ?_ GB82.out | refine below_set ?_ GE101.1 | refine below_set ?_ GE102.1 | refine below_set ?_ GE110.1 | refine below_set ?_ GE123.1) | exact HB.1)⟩
              (try clear HO_111000)
              (try clear HO_111001)
              (try clear HO119)
              (try clear HO122)
              (try clear BK101)
              (try clear BK102)
              (try clear BK110)
              (try clear BK123)
              (try clear HB)
              generalize (w158.setCell ⟨go82, (t111 : Int).toNat * 3 + 1, none⟩ (v133)) = w160 at n0_ n1_ n2_ n3_ n4_ n5_ n6_ n7_ n8_ ⊢
              have HO_111000 := n0_
              have HO_111001 := n1_
              have HO119 := n2_
              have HO122 := n3_
              have BK101 := n4_
              have BK102 := n5_
              have BK110 := n6_
              have BK123 := n7_
              have HB := n8_
              clear n0_ n1_ n2_ n3_ n4_ n5_ n6_ n7_ n8_
              obtain ⟨hcz161_0, hcz161_1, hfz161_0, hfz161_1⟩ := cz2 BK101
              try go_wp2_with (first | ((with_reducible refine gate_callee (f := 36) rfl ?_); refine goesL_ (some 78) rfl rfl Try.func36 (by kernel_rfl) rfl #[.agg #[.slice A0_0 l0_0.length c0_0, .slice (some ad112) l0_1.length c0_1]] rfl (pY54) ?_; (with_reducible refine (impl_ShareSafe.calls k1 _ _ l0_0 _ _ l0_1 false _ ?side1 ?side2 ?side3 ?side4 A83.out).mono ?_); (case side1 => exact pC (Kd.C_below HR0_0.1 HB.1)); (case side2 => exact HC0_0.1); (case side3 => exact pC (Kd.C_below HR0_1.1 HB.1)); (case side4 => exact HC0_1.1); rintro e w162 ⟨rfl, hb⟩; refine ⟨_, rfl, ?_⟩; replace HO_111000 := am (Kd.R_below (pY67) hb); replace HO_111001 := am (Kd.S_below (pY71) hb); replace HO119 := am (Kd.R_below (pY76) hb); replace HO122 := am (Kd.S_below (pY77) hb); replace BK101 := bB pY58 hb; replace BK102 := bB pY59 hb; replace BK110 := bB pY61 hb; replace BK123 := bB pY64 hb; replace HB := bS pY30 hb; (try clear hb); (try clear hb2); (try clear hk); (try clear hi); obtain ⟨hcz163_0, hcz163_1, hfz163_0, hfz163_1⟩ := cz2 BK123; have hnb164 := NB102_110.1; have hnc164 := NB110_102.1; obtain ⟨hcz165_0, hcz165_1, hfz165_0, hfz165_1⟩ := cz2 BK102))
              refine bodyPost_ret (results_ct rfl _ _ gb102 31 #[.slice Ao146 t117.length co146, .slice (some ⟨go82, 0, none⟩) t120.length co151] (0, 0) _ rfl (by (with_reducible repeat (first | refine blk_drewN ?_ _ | refine blk_drew ?_ | refine blk_alloc ?_ _)); refine blk_put (cs := #[.slice Ao146 t117.length co146, .slice none 0 0]) ?_ 1 _ rfl; (with_reducible repeat (first | refine blk_drewN ?_ _ | refine blk_drew ?_ | refine blk_alloc ?_ _)); refine blk_put (cs := #[.slice none 0 0, .slice none 0 0]) ?_ 0 _ rfl; (with_reducible repeat (first | refine blk_drewN ?_ _ | refine blk_drew ?_ | refine blk_alloc ?_ _)); exact BK102.1) Try.underlying31 rfl (by kernel_rfl)) rfl ?_
              exact ⟨_, _, by first | rfl | (simp [errW_none, errW_some] <;> rfl) | (simp [*, errW_none, errW_some] <;> rfl), by refine rR ?_; exact Kd.R_mono (Kd.R_far (p := ⟨gb102, 1, none⟩) (Kd.R_far (p := ⟨gb102, 0, none⟩) (Kd.R_types HO119.1 BK102.1 (by decide)) (fun _ hk => hk.2) (.slice Ao146 t117.length co146)) (fun _ hk => hk.2) (.slice (some ⟨go82, 0, none⟩) t120.length co151)) (fun _ hk => trivial), by refine rS ?_; exact Kd.S_mono (Kd.S_far (p := ⟨gb102, 1, none⟩) (Kd.S_far (p := ⟨gb102, 0, none⟩) (Kd.S_types HO122.1 BK102.1 (by decide)) (fun _ hk => hk.2) (.slice Ao146 t117.length co146)) (fun _ hk => hk.2) (.slice (some ⟨go82, 0, none⟩) t120.length co151)) (fun _ hk => hk.1.2.2), pY30⟩
            ·rw [if_neg c81] at H
             exact absurd H (by simp)
           ·rw [if_neg c78] at H
            exact absurd H (by simp)
          ·rw [if_neg c76] at H
           exact absurd H (by simp)
         ·rw [if_neg c75] at H
          exact absurd H (by simp)
     ·replace c29 := Bool.eq_false_iff.mpr c29
      subst c29
      replace H := iF H
      simp only [Option.some.injEq, Prod.mk.injEq] at H
      obtain ⟨rfl, rfl, rfl⟩ := H
      go_enter Try.func62, Try.ntmps62
      go_wp2_with (first | (refine bX 3 #[.slice A0_0 l0_0.length c0_0, .slice A0_1 l0_1.length c0_1] 31 ?_; intro gb101 hg w166 hbox hb; have BK101 := am (hbox); have GW101 := am (pY52 : w.heap.size ≤ gb101); have GE101 := am (pY52 : w.heap.size ≤ gb101); replace HB := bS pY55 hb; clear hb hbox hg) | (refine bX 6 #[.slice none 0 0, .slice none 0 0] 31 ?_; intro gb102 hg w167 hbox hb; have BK102 := am (hbox); have GW102 := am (pY45 : w.heap.size ≤ gb102); have GE102 := am (pY45 : w.heap.size ≤ gb102); replace HB := bS pY53 hb; have NB101_102 := nL pY58 hg; have NB102_101 := nG pY58 hg; replace BK101 := bB pY58 hb; clear hb hbox hg; have hnb168 := NB101_102.1; have hnc168 := NB102_101.1; obtain ⟨hcz169_0, hcz169_1, hfz169_0, hfz169_1⟩ := cz2 BK101) | ((with_reducible refine gate_callee (f := 24) rfl ?_); refine goesL_ (some 15) rfl rfl Try.func24 (by kernel_rfl) rfl #[.agg #[.slice A0_0 l0_0.length c0_0, .slice A0_1 l0_1.length c0_1]] rfl (pY54) ?_; (with_reducible refine (impl_ShareBookOk.calls k _ _ l0_0 _ _ l0_1 true _ ?side1 ?side2 ?side3 ?side4 A4.out).mono ?_); (case side1 => exact pC (Kd.C_below HR0_0.1 HB.1)); (case side2 => exact HC0_0.1); (case side3 => exact pC (Kd.C_below HR0_1.1 HB.1)); (case side4 => exact HC0_1.1); rintro e w170 ⟨rfl, hb⟩; refine ⟨_, rfl, ?_⟩; replace BK101 := bB pY58 hb; replace BK102 := bB pY59 hb; replace HB := bS pY46 hb; (try clear hb); (try clear hb2); (try clear hk); (try clear hi); obtain ⟨hcz171_0, hcz171_1, hfz171_0, hfz171_1⟩ := cz2 BK101) | ((with_reducible refine gate_callee (f := 90) rfl ?_); refine goesL_ (some 19) rfl rfl Try.func90 (by kernel_rfl) rfl #[.agg #[.slice A0_0 l0_0.length c0_0, .slice A0_1 l0_1.length c0_1]] rfl (pY54) ?_; (with_reducible refine (impl_copyBook.calls k _ _ l0_0 _ _ l0_1 t104 t107 _ ?side1 ?side2 ?side3 ?side4 A6.out).mono ?_); (case side1 => exact pC (Kd.C_below HR0_0.1 HB.1)); (case side2 => exact HC0_0.1); (case side3 => exact pC (Kd.C_below HR0_1.1 HB.1)); (case side4 => exact HC0_1.1); rintro e w172 ⟨v105, v108, rfl, ho0, ho1, hb⟩; refine ⟨_, rfl, ?_⟩; have HO106 := am (Kd.R_lower ho0 (below_size (pY46))); have HO109 := am (Kd.S_lower ho1 (below_size (pY46))); replace BK101 := bB pY58 hb; replace BK102 := bB pY59 hb; replace HB := bS pY46 hb; (try clear hb); (try clear hb2); (try clear hk); (try clear hi); (try clear ho0); (try clear ho1)) | (refine bX 8 #[.slice none 0 0, .slice none 0 0] 31 ?_; intro gb110 hg w173 hbox hb; replace HO106 := am (Kd.R_below (pY74) hb); replace HO109 := am (Kd.S_below (rS HO109.1) hb); have BK110 := am (hbox); have GW110 := am (pY39 : w.heap.size ≤ gb110); have GE110 := am (pY39 : w.heap.size ≤ gb110); replace HB := bS pY46 hb; have NB101_110 := nL pY58 hg; have NB110_101 := nG pY58 hg; replace BK101 := bB pY58 hb; have NB102_110 := nL pY59 hg; have NB110_102 := nG pY59 hg; replace BK102 := bB pY59 hb; clear hb hbox hg; obtain ⟨Ao174, co174, eo174⟩ := Kd.R_slice HO106.1; subst eo174; have hnb175 := NB110_101.1; have hnc175 := NB101_110.1; have hnb176 := NB110_102.1; have hnc176 := NB102_110.1; obtain ⟨hcz177_0, hcz177_1, hfz177_0, hfz177_1⟩ := cz2 BK110; obtain ⟨Ao178, co178, eo178⟩ := Kd.S_slice HO109.1; subst eo178; obtain ⟨hcz179_0, hcz179_1, hfz179_0, hfz179_1⟩ := cz2 BK101) | ((with_reducible refine gate_callee (f := 84) rfl ?_); refine goesL_ (some 22) rfl rfl Try.func84 (by kernel_rfl) rfl #[.agg #[.slice A0_0 l0_0.length c0_0, .slice A0_1 l0_1.length c0_1], .string a1] rfl (pY54) ?_; (with_reducible refine (impl_ShareBook_at.calls _ _ l0_0 _ _ l0_1 a1 t111 _ ?side1 ?side2 ?side3 ?side4 A7.out).mono ?_); (case side1 => exact Kd.C_below HR0_0.1 (pY43)); (case side2 => exact HC0_0.1); (case side3 => exact Kd.C_below HR0_1.1 (pY43)); (case side4 => exact HC0_1.1); rintro e w180 ⟨rfl, hb⟩; refine ⟨_, rfl, ?_⟩; replace HO106 := am (Kd.R_below (by refine rR ?_; exact (Kd.R_mono (Kd.R_far (p := ⟨gb110, 1, none⟩) (Kd.R_far (p := ⟨gb110, 0, none⟩) (Kd.R_types HO106.1 BK110.1 (by decide)) (fun _ hk => hk.2) (.slice Ao174 t104.length co174)) (fun _ hk => hk.2) (.slice Ao178 t107.length co178)) (fun _ h_ => h_.1))) hb); replace HO109 := am (Kd.S_below (by refine rS ?_; exact (Kd.S_mono (Kd.S_far (p := ⟨gb110, 1, none⟩) (Kd.S_far (p := ⟨gb110, 0, none⟩) (Kd.S_types HO109.1 BK110.1 (by decide)) (fun _ hk => hk.2) (.slice Ao174 t104.length co174)) (fun _ hk => hk.2) (.slice Ao178 t107.length co178)) (fun _ h_ => h_.1))) hb); replace BK101 := am (blk_below (g := gb101) (o := .cells #[.slice A0_0 l0_0.length c0_0, .slice A0_1 l0_1.length c0_1] 31 (0, 0)) (pY10) hb); replace BK102 := am (blk_below (g := gb102) (o := .cells #[.slice none 0 0, .slice none 0 0] 31 (0, 0)) (pY11) hb); replace BK110 := am (blk_below (g := gb110) (o := .cells #[.slice Ao174 t104.length co174, .slice Ao178 t107.length co178] 31 (0, 0)) (by (with_reducible repeat (first | refine blk_drewN ?_ _ | refine blk_drew ?_ | refine blk_alloc ?_ _)); refine blk_put (cs := #[.slice Ao174 t104.length co174, .slice none 0 0]) ?_ 1 _ rfl; (with_reducible repeat (first | refine blk_drewN ?_ _ | refine blk_drew ?_ | refine blk_alloc ?_ _)); refine blk_put (cs := #[.slice none 0 0, .slice none 0 0]) ?_ 0 _ rfl; (with_reducible repeat (first | refine blk_drewN ?_ _ | refine blk_drew ?_ | refine blk_alloc ?_ _)); exact BK110.1) hb); replace HB := bS pY43 hb; (try clear hb); (try clear hb2); (try clear hk); (try clear hi); obtain ⟨hcz181_0, hcz181_1, hfz181_0, hfz181_1⟩ := cz2 BK101; have p112 : 0 ≤ (t111 : Int) := of_decide_eq_true (pY82); have q112 : t111 < (l0_1.length : Int) := of_decide_eq_true (pY82); obtain ⟨ad112, A112_1, c112_1, A112_2, c112_2, e112, hx112_0, hx112_1, hx112_2, hl112_1, hi112_1, hl112_2, hi112_2⟩ := at_T56 HR0_1.1 t111 p112 q112; cases e112; replace hx112_0 := hX HB hx112_0; replace hx112_1 := hX HB hx112_1; replace hx112_2 := hX HB hx112_2; have HR112_1 := am hi112_1; have HC112_1 := am hl112_1; clear hi112_1 hl112_1; have HR112_2 := am hi112_2; have HC112_2 := am hl112_2; clear hi112_2 hl112_2; replace p112 := eq_true p112; replace q112 := eq_true q112) | ((with_reducible refine gate_callee (f := 74) rfl ?_); refine goesL_ (some 35) rfl rfl Try.func74 (by kernel_rfl) rfl #[.slice A2 l2.length c2, .slice A112_2 ((rd_T56 l0_1 t111).f2).length c112_2] rfl (pY54) ?_; (with_reducible refine (impl_of.calls k _ _ l2 _ _ ((rd_T56 l0_1 t111).f2) false _ ?side1 ?side2 ?side3 ?side4 A28.out).mono ?_); (case side1 => exact pC (Kd.C_below HR2.1 HB.1)); (case side2 => exact HC2.1); (case side3 => exact pC (Kd.C_below HR112_2.1 HB.1)); (case side4 => exact HC112_2.1); rintro e w' ⟨rfl, ⟨nd, rfl⟩⟩; refine ⟨_, rfl, ?_⟩; (try (rw [drewN_self w180]; generalize hq_ : World.drewN w180 _ = w180; have n0_ : Aside0 (Kd.R Kd.string 9 w180 w.heap.size (fun k_ => True) (.slice Ao174 t104.length co174) t104) := ⟨by rw [← hq_]; exact (pY74)⟩; have n1_ : Aside0 (Kd.S k56 56 w180 w.heap.size (fun k_ => some k_ ≠ (.slice Ao174 t104.length co174 : Value).ownBlock) (.slice Ao178 t107.length co178) t107) := ⟨by rw [← hq_]; exact (rS HO109.1)⟩; have n2_ : Aside0 (w180.heap[gb101]? = some (.cells #[.slice A0_0 l0_0.length c0_0, .slice (some ad112) l0_1.length c0_1] 31 (0, 0))) := ⟨by rw [← hq_]; exact (pY58)⟩; have n3_ : Aside0 (w180.heap[gb102]? = some (.cells #[.slice none 0 0, .slice none 0 0] 31 (0, 0))) := ⟨by rw [← hq_]; exact (pY59)⟩; have n4_ : Aside0 (w180.heap[gb110]? = some (.cells #[.slice Ao174 t104.length co174, .slice Ao178 t107.length co178] 31 (0, 0))) := ⟨by rw [← hq_]; exact (pY61)⟩; have n5_ : Aside0 (Below w.heap.size w w180) := ⟨by rw [← hq_]; exact (pY43)⟩; clear HO106 HO109 BK101 BK102 BK110 HB hq_; have HO106 := n0_; have HO109 := n1_; have BK101 := n2_; have BK102 := n3_; have BK110 := n4_; have HB := n5_; clear n0_ n1_ n2_ n3_ n4_ n5_)); obtain ⟨hcz182_0, hcz182_1, hfz182_0, hfz182_1⟩ := cz2 BK110; obtain ⟨hcz183_0, hcz183_1, hfz183_0, hfz183_1⟩ := cz2 BK102))
      refine bodyPost_ret (results_ct rfl _ _ gb102 31 #[.slice Ao174 t104.length co174, .slice Ao178 t107.length co178] (0, 0) _ rfl (by (with_reducible repeat (first | refine blk_drewN ?_ _ | refine blk_drew ?_ | refine blk_alloc ?_ _)); refine blk_put (cs := #[.slice Ao174 t104.length co174, .slice none 0 0]) ?_ 1 _ rfl; (with_reducible repeat (first | refine blk_drewN ?_ _ | refine blk_drew ?_ | refine blk_alloc ?_ _)); refine blk_put (cs := #[.slice none 0 0, .slice none 0 0]) ?_ 0 _ rfl; (with_reducible repeat (first | refine blk_drewN ?_ _ | refine blk_drew ?_ | refine blk_alloc ?_ _)); exact BK102.1) Try.underlying31 rfl (by kernel_rfl)) rfl ?_
      exact ⟨_, _, by first | rfl | (simp [errW_none, errW_some] <;> rfl) | (simp [*, errW_none, errW_some] <;> rfl), by refine rR ?_; exact Kd.R_mono (Kd.R_far (p := ⟨gb102, 1, none⟩) (Kd.R_far (p := ⟨gb102, 0, none⟩) (Kd.R_types HO106.1 BK102.1 (by decide)) (fun _ hk => hk.2) (.slice Ao174 t104.length co174)) (fun _ hk => hk.2) (.slice Ao178 t107.length co178)) (fun _ hk => trivial), by refine rS ?_; exact Kd.S_mono (Kd.S_far (p := ⟨gb102, 1, none⟩) (Kd.S_far (p := ⟨gb102, 0, none⟩) (Kd.S_types HO109.1 BK102.1 (by decide)) (fun _ hk => hk.2) (.slice Ao174 t104.length co174)) (fun _ hk => hk.2) (.slice Ao178 t107.length co178)) (fun _ hk => hk.1), pY43⟩
    ·rw [if_neg c27] at H
     exact absurd H (by simp)
   ·rw [if_neg c26] at H
    exact absurd H (by simp)
 ·replace c5 := Bool.eq_false_iff.mpr c5
  subst c5
  replace H := iF H
  simp only [Option.some.injEq, Prod.mk.injEq] at H
  obtain ⟨rfl, rfl, rfl⟩ := H
  go_enter Try.func62, Try.ntmps62
  go_wp2_with (first | (refine bX 3 #[.slice A0_0 l0_0.length c0_0, .slice A0_1 l0_1.length c0_1] 31 ?_; intro gb101 hg w184 hbox hb; have BK101 := am (hbox); have GW101 := am (pY52 : w.heap.size ≤ gb101); have GE101 := am (pY52 : w.heap.size ≤ gb101); replace HB := bS pY55 hb; clear hb hbox hg) | (refine bX 6 #[.slice none 0 0, .slice none 0 0] 31 ?_; intro gb102 hg w185 hbox hb; have BK102 := am (hbox); have GW102 := am (pY45 : w.heap.size ≤ gb102); have GE102 := am (pY45 : w.heap.size ≤ gb102); replace HB := bS pY53 hb; have NB101_102 := nL pY58 hg; have NB102_101 := nG pY58 hg; replace BK101 := bB pY58 hb; clear hb hbox hg; have hnb186 := NB101_102.1; have hnc186 := NB102_101.1; obtain ⟨hcz187_0, hcz187_1, hfz187_0, hfz187_1⟩ := cz2 BK101) | ((with_reducible refine gate_callee (f := 24) rfl ?_); refine goesL_ (some 15) rfl rfl Try.func24 (by kernel_rfl) rfl #[.agg #[.slice A0_0 l0_0.length c0_0, .slice A0_1 l0_1.length c0_1]] rfl (pY54) ?_; (with_reducible refine (impl_ShareBookOk.calls k _ _ l0_0 _ _ l0_1 false _ ?side1 ?side2 ?side3 ?side4 A4.out).mono ?_); (case side1 => exact pC (Kd.C_below HR0_0.1 HB.1)); (case side2 => exact HC0_0.1); (case side3 => exact pC (Kd.C_below HR0_1.1 HB.1)); (case side4 => exact HC0_1.1); rintro e w188 ⟨rfl, hb⟩; refine ⟨_, rfl, ?_⟩; replace BK101 := bB pY58 hb; replace BK102 := bB pY59 hb; replace HB := bS pY46 hb; (try clear hb); (try clear hb2); (try clear hk); (try clear hi); obtain ⟨hcz189_0, hcz189_1, hfz189_0, hfz189_1⟩ := cz2 BK102))
  refine bodyPost_ret (results_ct rfl _ _ gb102 31 #[.slice none 0 0, .slice none 0 0] (0, 0) _ rfl (pY9) Try.underlying31 rfl (by kernel_rfl)) rfl ?_
  exact ⟨_, _, by first | rfl | (simp [errW_none, errW_some] <;> rfl) | (simp [*, errW_none, errW_some] <;> rfl), by first | exact Kd.R_nil _ _ _ _ _ | exact Kd.N_nil _ _ _ _ _ | exact Kd.V_nil _ _ _ _ _ | exact Kd.Q_nil _ _ _ _ _ | exact Kd.S_nil _ _ _ _ _, by first | exact Kd.S_nil _ _ _ _ _ | exact Kd.N_nil _ _ _ _ _ | exact Kd.V_nil _ _ _ _ _ | exact Kd.Q_nil _ _ _ _ _ | exact Kd.R_nil _ _ _ _ _, pY46⟩
end Go.Proofs.Ytaofjgnhapnndaa.Q
namespace Go.Proofs.Ytaofjgnhapnndaa.Q
open Go.RowKit Go.Proofs.YtaofjgnhapnndaaW.PrintWords Go.Proofs.YtaofjgnhapnndaaW.PrintLast Go.Proofs.YtaofjgnhapnndaaW.PrintMore
set_option linter.unusedVariables false
set_option linter.unusedSimpArgs false
def laws_FnExactShareAsk.t (k : Nat) (l0 : List ByteArray) (l1 : List S94) (a1 : ByteArray) (l2 : List ByteArray) : Option Bool :=
 (laws_toShareBook.f k l0 l1).bind fun t1 => (laws_toStringS.f k l2).bind fun u1 => (spec_ShareAsk.f k t1.1 t1.2 a1 u1).bind fun w => (laws_toShareBook.f k l0 l1).bind fun x => (laws_toStringS.f k l2).bind fun x2 => (impl_ShareAsk.f k x.1 x.2 a1 x2).bind fun g => (laws_eqShareBook.f k g.1 g.2.1 w.1 w.2.1).bind fun e1 => if e1 = true ∧ g.2.2 = w.2.2 then (laws_toShareBook.f k l0 l1).bind fun t2 => (laws_eqShareBook.f k x.1 x.2 t2.1 t2.2).bind fun e2 => if e2 = true then (laws_toStringS.f k l2).bind fun u2 => (laws_eqStringS.f k x2 u2).bind fun e3 => if e3 = true then (laws_markShareBook.fB k x.1 x.2 1).bind fun p => (laws_markStringS.f k x2 p.1).bind fun p2 => if 0 ≤ p2.1 then (laws_eqShareBook.f k g.1 g.2.1 w.1 w.2.1).bind fun e4 => if e4 = true then (laws_markShareBook.fB k g.1 g.2.1 1).bind fun m => (laws_heldShareBook.f k m.2.1 m.2.2 1).bind fun q => if 0 ≤ q ∧ q = m.1 then (laws_toShareBook.f k l0 l1).bind fun t3 => (laws_toStringS.f k l2).bind fun u3 => (impl_ShareAsk.f k t3.1 t3.2 a1 u3).bind fun h => (laws_eqShareBook.f k h.1 h.2.1 w.1 w.2.1).bind fun e5 => if e5 = true ∧ h.2.2 = w.2.2 then (laws_heldShareBook.f k m.2.1 m.2.2 1).bind fun q2 => if 0 ≤ q2 ∧ q2 = m.1 then some true else none else none else none else none else none else none else none else none
def laws_FnExactShareAsk.f (k : Nat) (l0 : List ByteArray) (l1 : List S94) (a1 : ByteArray) (l2 : List ByteArray) : Option Bool :=
 if (a1.size : Int) > 1048576 then some true else (laws_szShareBook.f k l0 l1 1048576).bind fun z => if z < 0 then some true else (laws_szStringS.f k l2 z).bind fun z2 => if z2 < 0 then some true else laws_FnExactShareAsk.t k l0 l1 a1 l2
set_option maxHeartbeats 16000000 in
set_option maxRecDepth 100000 in
theorem laws_FnExactShareAsk.calls (k : Nat) (A0_0 : Option Addr) (c0_0 : Nat) (l0 : List ByteArray) (A0_1 : Option Addr) (c0_1 : Nat) (l1 : List S94) (a1 : ByteArray) (A2 : Option Addr) (c2 : Nat) (l2 : List ByteArray) (r : Bool) (w : World) (hr0_0 : Kd.C Kd.string w A0_0 l0.length l0) (hc0_0 : l0.length ≤ c0_0) (hr0_1 : Kd.C k94 w A0_1 l1.length l1) (hc0_1 : l1.length ≤ c0_1) (hr2 : Kd.C Kd.string w A2 l2.length l2) (hc2 : l2.length ≤ c2) (h : laws_FnExactShareAsk.f k l0 l1 a1 l2 = some r) :
  Calls Try.prog 18 #[.agg #[.slice A0_0 l0.length c0_0, .slice A0_1 l1.length c0_1], .string a1, .slice A2 l2.length c2] w fun e w' => e = .returned (.bool r) ∧ Below w.heap.size w w' := by
 have hu26 := Try.underlying26
 have hu31 := Try.underlying31
 have HR0_0 := am hr0_0
 have HC0_0 := am hc0_0
 clear hr0_0 hc0_0
 have HR0_1 := am hr0_1
 have HC0_1 := am hc0_1
 clear hr0_1 hc0_1
 have HR2 := am hr2
 have HC2 := am hc2
 clear hr2 hc2
 have HB := am (Below.refl w.heap.size w)
 unfold laws_FnExactShareAsk.f at h
 have H := h
 clear h
 by_cases c1 : (a1.size : Int) > 1048576
 ·rw [if_pos c1] at H
  have c1b0 : decide (1048576 < (a1.size : Int)) = true := decide_eq_true c1
  have c1b1 : decide (1048576 < a1.size) = true := decide_eq_true (by omega)
  obtain rfl := Option.some.inj H
  go_enter Try.func18, Try.ntmps18
  go_wp2_with (first | (refine bX 3 #[.slice A0_0 l0.length c0_0, .slice A0_1 l1.length c0_1] 26 ?_; intro gb3 hg_ W1 hbox hb; have hk_ : Kept w W1 (fun _ => False) := Kept.noth hb; have LEW1 := am (show w.heap.size ≤ W1.heap.size from hk_.1); have GE3 := am (show w.heap.size ≤ gb3 from Nat.le_trans HB.1.size (Nat.le_of_eq hg_.symm)); have GL3 := am (show w.heap.size ≤ gb3 from Nat.le_of_eq hg_.symm); have GH3 := am (show gb3 < W1.heap.size from blk_lt hbox); replace HB := bS HB.1 hb; have BK3 := am hbox; clear hb hbox hg_ hk_; (try clear hcz3_0 hcz3_1 hfz3_0 hfz3_1); obtain ⟨hcz3_0, hcz3_1, hfz3_0, hfz3_1⟩ := cz2 BK3))
  go_ret
  exact ⟨rfl, HB.1⟩
 rw [if_neg c1] at H
 have c1b0 : decide (1048576 < (a1.size : Int)) = false := decide_eq_false c1
 have c1b1 : decide (1048576 < a1.size) = false := decide_eq_false (by omega)
 have H2 := Option.bind_eq_some_iff.mp H
 clear H
 obtain ⟨z, A10, H⟩ := H2
 have A1 := am A10
 clear A10
 by_cases cj : z < 0
 ·rw [if_pos cj] at H
  have c2b0 : decide (z < 0) = true := decide_eq_true cj
  obtain rfl := Option.some.inj H
  go_enter Try.func18, Try.ntmps18
  go_wp2_with (first | (refine bX 3 #[.slice A0_0 l0.length c0_0, .slice A0_1 l1.length c0_1] 26 ?_; intro gb3 hg_ W1 hbox hb; have hk_ : Kept w W1 (fun _ => False) := Kept.noth hb; have LEW1 := am (show w.heap.size ≤ W1.heap.size from hk_.1); have GE3 := am (show w.heap.size ≤ gb3 from Nat.le_trans HB.1.size (Nat.le_of_eq hg_.symm)); have GL3 := am (show w.heap.size ≤ gb3 from Nat.le_of_eq hg_.symm); have GH3 := am (show gb3 < W1.heap.size from blk_lt hbox); replace HB := bS HB.1 hb; have BK3 := am hbox; clear hb hbox hg_ hk_; (try clear hcz3_0 hcz3_1 hfz3_0 hfz3_1); obtain ⟨hcz3_0, hcz3_1, hfz3_0, hfz3_1⟩ := cz2 BK3) | ((with_reducible refine gate_callee (f := 21) rfl ?_); refine goesL_ (some 24) rfl rfl Try.func21 (by kernel_rfl) rfl #[.agg #[.slice A0_0 l0.length c0_0, .slice A0_1 l1.length c0_1], .int .i64 1048576] rfl (pY54) ?_; (refine (laws_szShareBook.calls k _ _ l0 _ _ l1 1048576 z _ (Kd.C_below HR0_0.1 HB.1) HC0_0.1 (Kd.C_below HR0_1.1 HB.1) HC0_1.1 A1.out).mono ?_); rintro e_ W2 ⟨rfl, hb⟩; refine ⟨_, rfl, ?_⟩; have HB0 := am (show w.heap.size ≤ W1.heap.size from HB.1.size); have hk_ : Kept W1 W2 (fun _ => False) := Kept.noth hb; have LEW2 := am (show W1.heap.size ≤ W2.heap.size from hk_.1); replace BK3 := kB BK3 hk_; replace HB := bS HB.1 hb; (try clear hb); (try clear hk_); (try clear hkk); (try clear hbb); (try clear hcz3_0 hcz3_1 hfz3_0 hfz3_1); obtain ⟨hcz3_0, hcz3_1, hfz3_0, hfz3_1⟩ := cz2 BK3; (try clear HB0)))
  go_ret
  exact ⟨rfl, HB.1⟩
 rw [if_neg cj] at H
 have c2b0 : decide (z < 0) = false := decide_eq_false cj
 have H2 := Option.bind_eq_some_iff.mp H
 clear H
 obtain ⟨z2, A20, H⟩ := H2
 have A2_ := am A20
 clear A20
 by_cases c3 : z2 < 0
 ·rw [if_pos c3] at H
  have c3b0 : decide (z2 < 0) = true := decide_eq_true c3
  obtain rfl := Option.some.inj H
  go_enter Try.func18, Try.ntmps18
  go_wp2_with (first | (refine bX 3 #[.slice A0_0 l0.length c0_0, .slice A0_1 l1.length c0_1] 26 ?_; intro gb3 hg_ W1 hbox hb; have hk_ : Kept w W1 (fun _ => False) := Kept.noth hb; have LEW1 := am (show w.heap.size ≤ W1.heap.size from hk_.1); have GE3 := am (show w.heap.size ≤ gb3 from Nat.le_trans HB.1.size (Nat.le_of_eq hg_.symm)); have GL3 := am (show w.heap.size ≤ gb3 from Nat.le_of_eq hg_.symm); have GH3 := am (show gb3 < W1.heap.size from blk_lt hbox); replace HB := bS HB.1 hb; have BK3 := am hbox; clear hb hbox hg_ hk_; (try clear hcz3_0 hcz3_1 hfz3_0 hfz3_1); obtain ⟨hcz3_0, hcz3_1, hfz3_0, hfz3_1⟩ := cz2 BK3) | ((with_reducible refine gate_callee (f := 21) rfl ?_); refine goesL_ (some 24) rfl rfl Try.func21 (by kernel_rfl) rfl #[.agg #[.slice A0_0 l0.length c0_0, .slice A0_1 l1.length c0_1], .int .i64 1048576] rfl (pY54) ?_; (refine (laws_szShareBook.calls k _ _ l0 _ _ l1 1048576 z _ (Kd.C_below HR0_0.1 HB.1) HC0_0.1 (Kd.C_below HR0_1.1 HB.1) HC0_1.1 A1.out).mono ?_); rintro e_ W2 ⟨rfl, hb⟩; refine ⟨_, rfl, ?_⟩; have HB0 := am (show w.heap.size ≤ W1.heap.size from HB.1.size); have hk_ : Kept W1 W2 (fun _ => False) := Kept.noth hb; have LEW2 := am (show W1.heap.size ≤ W2.heap.size from hk_.1); replace BK3 := kB BK3 hk_; replace HB := bS HB.1 hb; (try clear hb); (try clear hk_); (try clear hkk); (try clear hbb); (try clear hcz3_0 hcz3_1 hfz3_0 hfz3_1); obtain ⟨hcz3_0, hcz3_1, hfz3_0, hfz3_1⟩ := cz2 BK3; (try clear HB0)) | ((with_reducible refine gate_callee (f := 30) rfl ?_); refine goesL_ (some 29) rfl rfl Try.func30 (by kernel_rfl) rfl #[.slice A2 l2.length c2, .int .i64 z] rfl (pY54) ?_; (refine (laws_szStringS.calls k _ _ l2 z z2 _ (Kd.C_below HR2.1 HB.1) HC2.1 A2_.out).mono ?_); rintro e_ W3 ⟨rfl, hb⟩; refine ⟨_, rfl, ?_⟩; obtain ⟨nd_, hd_⟩ := hb; have hb : Below W2.heap.size W2 W3 := hd_ ▸ pw_below_drewN (Below.refl _ _) nd_; clear hd_ nd_; have HB0 := am (show w.heap.size ≤ W2.heap.size from HB.1.size); have hk_ : Kept W2 W3 (fun _ => False) := Kept.noth hb; have LEW3 := am (show W2.heap.size ≤ W3.heap.size from hk_.1); replace BK3 := kB BK3 hk_; replace HB := bS HB.1 hb; (try clear hb); (try clear hk_); (try clear hkk); (try clear hbb); (try clear hcz3_0 hcz3_1 hfz3_0 hfz3_1); obtain ⟨hcz3_0, hcz3_1, hfz3_0, hfz3_1⟩ := cz2 BK3; (try clear HB0)))
  go_ret
  exact ⟨rfl, HB.1⟩
 rw [if_neg c3] at H
 have c3b0 : decide (z2 < 0) = false := decide_eq_false c3
 unfold laws_FnExactShareAsk.t at H
 have H2 := Option.bind_eq_some_iff.mp H
 clear H
 obtain ⟨⟨t1a, t1b⟩, D1_, H⟩ := H2
 have D1 := am D1_
 clear D1_
 have H2 := Option.bind_eq_some_iff.mp H
 clear H
 obtain ⟨u1, D2_, H⟩ := H2
 have D2 := am D2_
 clear D2_
 have H2 := Option.bind_eq_some_iff.mp H
 clear H
 obtain ⟨⟨w1, w2, w3⟩, D3_, H⟩ := H2
 have D3 := am D3_
 clear D3_
 have H2 := Option.bind_eq_some_iff.mp H
 clear H
 obtain ⟨⟨x1, xb⟩, D4_, H⟩ := H2
 have D4 := am D4_
 clear D4_
 have H2 := Option.bind_eq_some_iff.mp H
 clear H
 obtain ⟨x2, D5_, H⟩ := H2
 have D5 := am D5_
 clear D5_
 have H2 := Option.bind_eq_some_iff.mp H
 clear H
 obtain ⟨⟨g1, g2, g3⟩, D6_, H⟩ := H2
 have D6 := am D6_
 clear D6_
 have H2 := Option.bind_eq_some_iff.mp H
 clear H
 obtain ⟨e1, D7_, H⟩ := H2
 have D7 := am D7_
 clear D7_
 have H2 := ite_some H
 clear H
 obtain ⟨⟨q1, q2⟩, H⟩ := H2
 dsimp only at q1 q2
 subst q1; subst q2
 have H2 := Option.bind_eq_some_iff.mp H
 clear H
 obtain ⟨⟨t2a, t2b⟩, D8_, H⟩ := H2
 have D8 := am D8_
 clear D8_
 have H2 := Option.bind_eq_some_iff.mp H
 clear H
 obtain ⟨e2, D9_, H⟩ := H2
 have D9 := am D9_
 clear D9_
 have H2 := ite_some H
 clear H
 obtain ⟨q1, H⟩ := H2
 subst q1
 have H2 := Option.bind_eq_some_iff.mp H
 clear H
 obtain ⟨u2, D10_, H⟩ := H2
 have D10 := am D10_
 clear D10_
 have H2 := Option.bind_eq_some_iff.mp H
 clear H
 obtain ⟨e3, D11_, H⟩ := H2
 have D11 := am D11_
 clear D11_
 have H2 := ite_some H
 clear H
 obtain ⟨q1, H⟩ := H2
 subst q1
 have H2 := Option.bind_eq_some_iff.mp H
 clear H
 obtain ⟨⟨p, pa, pb⟩, D12_, H⟩ := H2
 have D12 := am D12_
 clear D12_
 have H2 := Option.bind_eq_some_iff.mp H
 clear H
 obtain ⟨⟨p2, pc⟩, D13_, H⟩ := H2
 have D13 := am D13_
 clear D13_
 have H2 := ite_some H
 clear H
 obtain ⟨q1, H⟩ := H2
 have c4b0 : decide (p2 < 0) = false := decide_eq_false (by have := q1; dsimp only at this; omega)
 clear q1
 have H2 := Option.bind_eq_some_iff.mp H
 clear H
 obtain ⟨e4, D14_, H⟩ := H2
 have D14 := am D14_
 clear D14_
 have H2 := ite_some H
 clear H
 obtain ⟨q1, H⟩ := H2
 subst q1
 have H2 := Option.bind_eq_some_iff.mp H
 clear H
 obtain ⟨⟨m, ma, mb⟩, D15_, H⟩ := H2
 have D15 := am D15_
 clear D15_
 have H2 := Option.bind_eq_some_iff.mp H
 clear H
 obtain ⟨q, D16_, H⟩ := H2
 have D16 := am D16_
 clear D16_
 have H2 := ite_some H
 clear H
 obtain ⟨⟨q1, q2⟩, H⟩ := H2
 have c5b0 : decide (q < 0) = false := decide_eq_false (by omega)
 dsimp only at q2
 subst q2
 clear q1
 have H2 := Option.bind_eq_some_iff.mp H
 clear H
 obtain ⟨⟨t3a, t3b⟩, D17_, H⟩ := H2
 have D17 := am D17_
 clear D17_
 have H2 := Option.bind_eq_some_iff.mp H
 clear H
 obtain ⟨u3, D18_, H⟩ := H2
 have D18 := am D18_
 clear D18_
 have H2 := Option.bind_eq_some_iff.mp H
 clear H
 obtain ⟨⟨h1, h2, h3⟩, D19_, H⟩ := H2
 have D19 := am D19_
 clear D19_
 have H2 := Option.bind_eq_some_iff.mp H
 clear H
 obtain ⟨e5, D20_, H⟩ := H2
 have D20 := am D20_
 clear D20_
 have H2 := ite_some H
 clear H
 obtain ⟨⟨q1, q2⟩, H⟩ := H2
 dsimp only at q1 q2
 subst q1; subst q2
 have H2 := Option.bind_eq_some_iff.mp H
 clear H
 obtain ⟨q2, D21_, H⟩ := H2
 have D21 := am D21_
 clear D21_
 have H2 := ite_some H
 clear H
 obtain ⟨⟨q1, q3⟩, H⟩ := H2
 have c6b0 : decide (q2 < 0) = false := decide_eq_false (by omega)
 dsimp only at q3
 subst q3
 clear q1
 obtain rfl := Option.some.inj H
 clear H
 dsimp only at D3 D6 D7 D9 D12 D14 D15 D16 D19 D20 D21 D11 D13
 have v1b0 : (h3 == h3) = true := beq_self_eq_true _
 have v1b1 : (h3 != h3) = false := by simp
 have v1b2 : decide (h3 = h3) = true := decide_eq_true rfl
 have v2b0 : (q2 == q2) = true := beq_self_eq_true _
 have v2b1 : (q2 != q2) = false := by simp
 have v2b2 : decide (q2 = q2) = true := decide_eq_true rfl
 go_enter Try.func18, Try.ntmps18
 try go_wp2_with (first | (refine bX 3 #[.slice A0_0 l0.length c0_0, .slice A0_1 l1.length c0_1] 26 ?_; intro gb3 hg_ W1 hbox hb; have hk_ : Kept w W1 (fun _ => False) := Kept.noth hb; have LEW1 := am (show w.heap.size ≤ W1.heap.size from hk_.1); have GE3 := am (show w.heap.size ≤ gb3 from Nat.le_trans HB.1.size (Nat.le_of_eq hg_.symm)); have GL3 := am (show w.heap.size ≤ gb3 from Nat.le_of_eq hg_.symm); have GH3 := am (show gb3 < W1.heap.size from blk_lt hbox); replace HB := bS HB.1 hb; have BK3 := am hbox; clear hb hbox hg_ hk_; (try clear hcz3_0 hcz3_1 hfz3_0 hfz3_1); obtain ⟨hcz3_0, hcz3_1, hfz3_0, hfz3_1⟩ := cz2 BK3) | ((with_reducible refine gate_callee (f := 21) rfl ?_); refine goesL_ (some 24) rfl rfl Try.func21 (by kernel_rfl) rfl #[.agg #[.slice A0_0 l0.length c0_0, .slice A0_1 l1.length c0_1], .int .i64 1048576] rfl (pY54) ?_; (refine (laws_szShareBook.calls k _ _ l0 _ _ l1 1048576 z _ (Kd.C_below HR0_0.1 HB.1) HC0_0.1 (Kd.C_below HR0_1.1 HB.1) HC0_1.1 A1.out).mono ?_); rintro e_ W2 ⟨rfl, hb⟩; refine ⟨_, rfl, ?_⟩; have HB0 := am (show w.heap.size ≤ W1.heap.size from HB.1.size); have hk_ : Kept W1 W2 (fun _ => False) := Kept.noth hb; have LEW2 := am (show W1.heap.size ≤ W2.heap.size from hk_.1); replace BK3 := kB BK3 hk_; replace HB := bS HB.1 hb; (try clear hb); (try clear hk_); (try clear hkk); (try clear hbb); (try clear hcz3_0 hcz3_1 hfz3_0 hfz3_1); obtain ⟨hcz3_0, hcz3_1, hfz3_0, hfz3_1⟩ := cz2 BK3; (try clear HB0)) | ((with_reducible refine gate_callee (f := 30) rfl ?_); refine goesL_ (some 29) rfl rfl Try.func30 (by kernel_rfl) rfl #[.slice A2 l2.length c2, .int .i64 z] rfl (pY54) ?_; (refine (laws_szStringS.calls k _ _ l2 z z2 _ (Kd.C_below HR2.1 HB.1) HC2.1 A2_.out).mono ?_); rintro e_ W3 ⟨rfl, hb⟩; refine ⟨_, rfl, ?_⟩; obtain ⟨nd_, hd_⟩ := hb; have hb : Below W2.heap.size W2 W3 := hd_ ▸ pw_below_drewN (Below.refl _ _) nd_; clear hd_ nd_; have HB0 := am (show w.heap.size ≤ W2.heap.size from HB.1.size); have hk_ : Kept W2 W3 (fun _ => False) := Kept.noth hb; have LEW3 := am (show W2.heap.size ≤ W3.heap.size from hk_.1); replace BK3 := kB BK3 hk_; replace HB := bS HB.1 hb; (try clear hb); (try clear hk_); (try clear hkk); (try clear hbb); (try clear hcz3_0 hcz3_1 hfz3_0 hfz3_1); obtain ⟨hcz3_0, hcz3_1, hfz3_0, hfz3_1⟩ := cz2 BK3; (try clear HB0)) | ((with_reducible refine gate_callee (f := 23) rfl ?_); refine goesL_ (some 34) rfl rfl Try.func23 (by kernel_rfl) rfl #[.agg #[.slice A0_0 l0.length c0_0, .slice A0_1 l1.length c0_1]] rfl (pY54) ?_; (refine (laws_toShareBook.calls k _ _ l0 _ _ l1 t1a t1b _ (Kd.C_below HR0_0.1 HB.1) HC0_0.1 (Kd.C_below HR0_1.1 HB.1) HC0_1.1 D1.1).mono ?_); rintro e_ W4 ⟨_, _, rfl, ho0, ho1, hb⟩; refine ⟨_, rfl, ?_⟩; have HB0 := am (show w.heap.size ≤ W3.heap.size from HB.1.size); have hk_ : Kept W3 W4 (fun _ => False) := Kept.noth hb; have LEW4 := am (show W3.heap.size ≤ W4.heap.size from hk_.1); replace BK3 := kB BK3 hk_; replace HB := bS HB.1 hb; have KT := am (BkS.made (n := W3.heap.size) ho0 ho1 (HB0.out) (Nat.le_refl _)); clear ho0 ho1; obtain ⟨At0, ct0, At1, ct1, e0_, e1_⟩ := KT.out.slices; subst e0_; subst e1_; (try clear hb); (try clear hk_); (try clear hkk); (try clear hbb); (try clear hcz3_0 hcz3_1 hfz3_0 hfz3_1); obtain ⟨hcz3_0, hcz3_1, hfz3_0, hfz3_1⟩ := cz2 BK3; (try clear HB0)) | ((with_reducible refine gate_callee (f := 32) rfl ?_); refine goesL_ (some 37) rfl rfl Try.func32 (by kernel_rfl) rfl #[.slice A2 l2.length c2] rfl (pY54) ?_; (refine (laws_toStringS.calls k _ _ l2 u1 _ (Kd.C_below HR2.1 HB.1) HC2.1 D2.1).mono ?_); rintro e_ W5 ⟨_, rfl, ho0, hb⟩; refine ⟨_, rfl, ?_⟩; have HB0 := am (show w.heap.size ≤ W4.heap.size from HB.1.size); have hk_ : Kept W4 W5 (fun _ => False) := Kept.noth hb; have LEW5 := am (show W4.heap.size ≤ W5.heap.size from hk_.1); replace KT := am (BkS.kept KT.out hk_ (fun _ _ _ h => h)); replace BK3 := kB BK3 hk_; replace HB := bS HB.1 hb; have KU := am (RwS.made (n := W4.heap.size) ho0 (HB0.out) (Nat.le_refl _)); clear ho0; obtain ⟨Au0, cu0, e0_⟩ := KU.out.slices; subst e0_; (try clear hb); (try clear hk_); (try clear hkk); (try clear hbb); (try clear hcz3_0 hcz3_1 hfz3_0 hfz3_1); obtain ⟨hcz3_0, hcz3_1, hfz3_0, hfz3_1⟩ := cz2 BK3; (try clear HB0)) | ((with_reducible refine gate_callee (f := 61) rfl ?_); refine goesL_ (some 38) rfl rfl Try.func61 (by kernel_rfl) rfl #[.agg #[.slice At0 t1a.length ct0, .slice At1 t1b.length ct1], .string a1, .slice Au0 u1.length cu0] rfl (pY54) ?_; (refine (spec_ShareAsk.calls k _ _ t1a _ _ t1b a1 _ _ u1 w1 w2 h3 _ (Kd.R_reads' (KT.out).1).2.2 (Kd.R_reads' (KT.out).1).2.1 (Kd.S_reads' (KT.out).2).2.2 (Kd.S_reads' (KT.out).2).2.1 (Kd.R_reads' (KU.out)).2.2 (Kd.R_reads' (KU.out)).2.1 D3.1).mono ?_); rintro e_ W6 ⟨_, _, rfl, ho0, ho1, hb⟩; refine ⟨_, rfl, ?_⟩; have HB0 := am (show w.heap.size ≤ W5.heap.size from HB.1.size); have hk_ : Kept W5 W6 (fun _ => False) := Kept.noth hb; have LEW6 := am (show W5.heap.size ≤ W6.heap.size from hk_.1); replace BK3 := kB BK3 hk_; clear KT KU; replace HB := bS HB.1 hb; have KW := am (BkN.made (n := W5.heap.size) ho0 ho1 (HB0.out) (Nat.le_refl _)); clear ho0 ho1; obtain ⟨Aw0, cw0, Aw1, cw1, e0_, e1_⟩ := KW.out.slices; subst e0_; subst e1_; (try clear hb); (try clear hk_); (try clear hkk); (try clear hbb); (try clear hcz3_0 hcz3_1 hfz3_0 hfz3_1); obtain ⟨hcz3_0, hcz3_1, hfz3_0, hfz3_1⟩ := cz2 BK3; (try clear HB0)) | (refine bX 8 #[.slice none 0 0, .slice none 0 0] 31 ?_; intro gb8 hg_ W7 hbox hb; have hk_ : Kept W6 W7 (fun _ => False) := Kept.noth hb; have LEW7 := am (show W6.heap.size ≤ W7.heap.size from hk_.1); have GE8 := am (show w.heap.size ≤ gb8 from Nat.le_trans HB.1.size (Nat.le_of_eq hg_.symm)); have GL8 := am (show W6.heap.size ≤ gb8 from Nat.le_of_eq hg_.symm); have GH8 := am (show gb8 < W7.heap.size from blk_lt hbox); replace KW := am (BkN.kept KW.out hk_ (fun _ _ _ h => h)); replace BK3 := kB BK3 hk_; replace HB := bS HB.1 hb; have BK8 := am hbox; clear hb hbox hg_ hk_; have nb8_3 : gb8 ≠ gb3 := (by have := LEW1.1; have := GL3.1; have := GH3.1; have := LEW2.1; have := LEW3.1; have := LEW4.1; have := LEW5.1; have := LEW6.1; have := LEW7.1; have := GL8.1; have := GH8.1;  omega); have nb3_8 : gb3 ≠ gb8 := (by have := LEW1.1; have := GL3.1; have := GH3.1; have := LEW2.1; have := LEW3.1; have := LEW4.1; have := LEW5.1; have := LEW6.1; have := LEW7.1; have := GL8.1; have := GH8.1;  omega); (try clear hcz8_0 hcz8_1 hfz8_0 hfz8_1); obtain ⟨hcz8_0, hcz8_1, hfz8_0, hfz8_1⟩ := cz2 BK8; (try clear hcz3_0 hcz3_1 hfz3_0 hfz3_1); obtain ⟨hcz3_0, hcz3_1, hfz3_0, hfz3_1⟩ := cz2 BK3) | ((with_reducible refine gate_callee (f := 23) rfl ?_); refine goesL_ (some 42) rfl rfl Try.func23 (by kernel_rfl) rfl #[.agg #[.slice A0_0 l0.length c0_0, .slice A0_1 l1.length c0_1]] rfl (pY54) ?_; (refine (laws_toShareBook.calls k _ _ l0 _ _ l1 x1 xb _ (Kd.C_below HR0_0.1 (below_set (below_set HB.1 GE8.1) GE8.1)) HC0_0.1 (Kd.C_below HR0_1.1 (below_set (below_set HB.1 GE8.1) GE8.1)) HC0_1.1 D4.1).mono ?_); rintro e_ W8 ⟨_, _, rfl, ho0, ho1, hb⟩; refine ⟨_, rfl, ?_⟩; have HB0 := am (show w.heap.size ≤ W7.heap.size from HB.1.size); have hk_ : Kept W7 W8 (fun k => k = gb8) := (Kept.two (w := W7) (g := gb8) 0 1 (.slice Aw0 w1.length cw0) (.slice Aw1 w2.length cw1)).below hb; have LEW8 := am (show W7.heap.size ≤ W8.heap.size from hk_.1); replace KW := am (BkN.kept KW.out hk_ (fun k_ h1_ h2_ e_ => by have := LEW1.1; have := GL3.1; have := GH3.1; have := LEW2.1; have := LEW3.1; have := LEW4.1; have := LEW5.1; have := LEW6.1; have := LEW7.1; have := GL8.1; have := GH8.1;  omega)); replace BK3 := am (blk_kept BK3.1 hk_ (fun e_ => by have := LEW1.1; have := GL3.1; have := GH3.1; have := LEW2.1; have := LEW3.1; have := LEW4.1; have := LEW5.1; have := LEW6.1; have := LEW7.1; have := GL8.1; have := GH8.1;  omega)); replace BK8 := am (blk_below (g := gb8) (o := .cells #[.slice Aw0 w1.length cw0, .slice Aw1 w2.length cw1] 31 (0, 0)) (blk_put (cs := #[.slice Aw0 w1.length cw0, .slice none 0 0]) (blk_put (cs := #[.slice none 0 0, .slice none 0 0]) BK8.1 0 _ rfl) 1 _ rfl) hb); replace HB := am (below_step (below_set (below_set HB.1 GE8.1) GE8.1) hb); have KX := am (BkS.made (n := W7.heap.size) ho0 ho1 (HB0.out) (Nat.le_of_eq (by simp [World.setCell]))); clear ho0 ho1; obtain ⟨Ax0, cx0, Ax1, cx1, e0_, e1_⟩ := KX.out.slices; subst e0_; subst e1_; (try clear hb); (try clear hk_); (try clear hkk); (try clear hbb); (try clear hcz3_0 hcz3_1 hfz3_0 hfz3_1); obtain ⟨hcz3_0, hcz3_1, hfz3_0, hfz3_1⟩ := cz2 BK3; (try clear HB0)) | (refine bX 10 #[.slice none 0 0, .slice none 0 0] 31 ?_; intro gb10 hg_ W9 hbox hb; have hk_ : Kept W8 W9 (fun _ => False) := Kept.noth hb; have LEW9 := am (show W8.heap.size ≤ W9.heap.size from hk_.1); have GE10 := am (show w.heap.size ≤ gb10 from Nat.le_trans HB.1.size (Nat.le_of_eq hg_.symm)); have GL10 := am (show W8.heap.size ≤ gb10 from Nat.le_of_eq hg_.symm); have GH10 := am (show gb10 < W9.heap.size from blk_lt hbox); replace KW := am (BkN.kept KW.out hk_ (fun _ _ _ h => h)); replace KX := am (BkS.kept KX.out hk_ (fun _ _ _ h => h)); replace BK3 := kB BK3 hk_; replace BK8 := kB BK8 hk_; replace HB := bS HB.1 hb; have BK10 := am hbox; clear hb hbox hg_ hk_; have nb10_3 : gb10 ≠ gb3 := (by have := LEW1.1; have := GL3.1; have := GH3.1; have := LEW2.1; have := LEW3.1; have := LEW4.1; have := LEW5.1; have := LEW6.1; have := LEW7.1; have := GL8.1; have := GH8.1; have := LEW8.1; have := LEW9.1; have := GL10.1; have := GH10.1;  omega); have nb3_10 : gb3 ≠ gb10 := (by have := LEW1.1; have := GL3.1; have := GH3.1; have := LEW2.1; have := LEW3.1; have := LEW4.1; have := LEW5.1; have := LEW6.1; have := LEW7.1; have := GL8.1; have := GH8.1; have := LEW8.1; have := LEW9.1; have := GL10.1; have := GH10.1;  omega); have nb10_8 : gb10 ≠ gb8 := (by have := LEW1.1; have := GL3.1; have := GH3.1; have := LEW2.1; have := LEW3.1; have := LEW4.1; have := LEW5.1; have := LEW6.1; have := LEW7.1; have := GL8.1; have := GH8.1; have := LEW8.1; have := LEW9.1; have := GL10.1; have := GH10.1;  omega); have nb8_10 : gb8 ≠ gb10 := (by have := LEW1.1; have := GL3.1; have := GH3.1; have := LEW2.1; have := LEW3.1; have := LEW4.1; have := LEW5.1; have := LEW6.1; have := LEW7.1; have := GL8.1; have := GH8.1; have := LEW8.1; have := LEW9.1; have := GL10.1; have := GH10.1;  omega); (try clear hcz10_0 hcz10_1 hfz10_0 hfz10_1); obtain ⟨hcz10_0, hcz10_1, hfz10_0, hfz10_1⟩ := cz2 BK10; (try clear hcz3_0 hcz3_1 hfz3_0 hfz3_1); obtain ⟨hcz3_0, hcz3_1, hfz3_0, hfz3_1⟩ := cz2 BK3) | ((with_reducible refine gate_callee (f := 32) rfl ?_); refine goesL_ (some 44) rfl rfl Try.func32 (by kernel_rfl) rfl #[.slice A2 l2.length c2] rfl (pY54) ?_; (refine (laws_toStringS.calls k _ _ l2 x2 _ (Kd.C_below HR2.1 (below_set (below_set HB.1 GE10.1) GE10.1)) HC2.1 D5.1).mono ?_); rintro e_ W10 ⟨_, rfl, ho0, hb⟩; refine ⟨_, rfl, ?_⟩; have HB0 := am (show w.heap.size ≤ W9.heap.size from HB.1.size); have hk_ : Kept W9 W10 (fun k => k = gb10) := (Kept.two (w := W9) (g := gb10) 0 1 (.slice Ax0 x1.length cx0) (.slice Ax1 xb.length cx1)).below hb; have LEW10 := am (show W9.heap.size ≤ W10.heap.size from hk_.1); replace KW := am (BkN.kept KW.out hk_ (fun k_ h1_ h2_ e_ => by have := LEW1.1; have := GL3.1; have := GH3.1; have := LEW2.1; have := LEW3.1; have := LEW4.1; have := LEW5.1; have := LEW6.1; have := LEW7.1; have := GL8.1; have := GH8.1; have := LEW8.1; have := LEW9.1; have := GL10.1; have := GH10.1;  omega)); replace KX := am (BkS.kept KX.out hk_ (fun k_ h1_ h2_ e_ => by have := LEW1.1; have := GL3.1; have := GH3.1; have := LEW2.1; have := LEW3.1; have := LEW4.1; have := LEW5.1; have := LEW6.1; have := LEW7.1; have := GL8.1; have := GH8.1; have := LEW8.1; have := LEW9.1; have := GL10.1; have := GH10.1;  omega)); replace BK3 := am (blk_kept BK3.1 hk_ (fun e_ => by have := LEW1.1; have := GL3.1; have := GH3.1; have := LEW2.1; have := LEW3.1; have := LEW4.1; have := LEW5.1; have := LEW6.1; have := LEW7.1; have := GL8.1; have := GH8.1; have := LEW8.1; have := LEW9.1; have := GL10.1; have := GH10.1;  omega)); replace BK8 := am (blk_kept BK8.1 hk_ (fun e_ => by have := LEW1.1; have := GL3.1; have := GH3.1; have := LEW2.1; have := LEW3.1; have := LEW4.1; have := LEW5.1; have := LEW6.1; have := LEW7.1; have := GL8.1; have := GH8.1; have := LEW8.1; have := LEW9.1; have := GL10.1; have := GH10.1;  omega)); replace BK10 := am (blk_below (g := gb10) (o := .cells #[.slice Ax0 x1.length cx0, .slice Ax1 xb.length cx1] 31 (0, 0)) (blk_put (cs := #[.slice Ax0 x1.length cx0, .slice none 0 0]) (blk_put (cs := #[.slice none 0 0, .slice none 0 0]) BK10.1 0 _ rfl) 1 _ rfl) hb); replace HB := am (below_step (below_set (below_set HB.1 GE10.1) GE10.1) hb); have KY := am (RwS.made (n := W9.heap.size) ho0 (HB0.out) (Nat.le_of_eq (by simp [World.setCell]))); clear ho0; obtain ⟨Ay0, cy0, e0_⟩ := KY.out.slices; subst e0_; (try clear hb); (try clear hk_); (try clear hkk); (try clear hbb); (try clear hcz10_0 hcz10_1 hfz10_0 hfz10_1); obtain ⟨hcz10_0, hcz10_1, hfz10_0, hfz10_1⟩ := cz2 BK10; (try clear HB0)) | ((with_reducible refine gate_callee (f := 62) rfl ?_); refine goesL_ (some 49) rfl rfl Try.func62 (by kernel_rfl) rfl #[.agg #[.slice Ax0 x1.length cx0, .slice Ax1 xb.length cx1], .string a1, .slice Ay0 x2.length cy0] rfl (pY54) ?_; (refine (impl_ShareAsk.calls k _ _ x1 _ _ xb a1 _ _ x2 g1 g2 h3 _ (Kd.R_reads' (KX.out).1).2.2 (Kd.R_reads' (KX.out).1).2.1 (Kd.S_reads' (KX.out).2).2.2 (Kd.S_reads' (KX.out).2).2.1 (Kd.R_reads' (KY.out)).2.2 (Kd.R_reads' (KY.out)).2.1 D6.1).mono ?_); rintro e_ W11 ⟨_, _, rfl, ho0, ho1, hb⟩; refine ⟨_, rfl, ?_⟩; have HB0 := am (show w.heap.size ≤ W10.heap.size from HB.1.size); have hk_ : Kept W10 W11 (fun _ => False) := Kept.noth hb; have LEW11 := am (show W10.heap.size ≤ W11.heap.size from hk_.1); replace KW := am (BkN.kept KW.out hk_ (fun _ _ _ h => h)); replace KX := am (BkS.kept KX.out hk_ (fun _ _ _ h => h)); replace KY := am (RwS.kept KY.out hk_ (fun _ _ _ h => h)); replace BK3 := kB BK3 hk_; replace BK8 := kB BK8 hk_; replace BK10 := kB BK10 hk_; replace HB := bS HB.1 hb; have KG := am (BkS.made (n := W10.heap.size) ho0 ho1 (HB0.out) (Nat.le_refl _)); clear ho0 ho1; obtain ⟨Ag0, cg0, Ag1, cg1, e0_, e1_⟩ := KG.out.slices; subst e0_; subst e1_; (try clear hb); (try clear hk_); (try clear hkk); (try clear hbb); (try clear HB0)) | (refine bX 12 #[.slice none 0 0, .slice none 0 0] 31 ?_; intro gb12 hg_ W12 hbox hb; have hk_ : Kept W11 W12 (fun _ => False) := Kept.noth hb; have LEW12 := am (show W11.heap.size ≤ W12.heap.size from hk_.1); have GE12 := am (show w.heap.size ≤ gb12 from Nat.le_trans HB.1.size (Nat.le_of_eq hg_.symm)); have GL12 := am (show W11.heap.size ≤ gb12 from Nat.le_of_eq hg_.symm); have GH12 := am (show gb12 < W12.heap.size from blk_lt hbox); replace KW := am (BkN.kept KW.out hk_ (fun _ _ _ h => h)); replace KX := am (BkS.kept KX.out hk_ (fun _ _ _ h => h)); replace KY := am (RwS.kept KY.out hk_ (fun _ _ _ h => h)); replace KG := am (BkS.kept KG.out hk_ (fun _ _ _ h => h)); replace BK3 := kB BK3 hk_; replace BK8 := kB BK8 hk_; replace BK10 := kB BK10 hk_; replace HB := bS HB.1 hb; have BK12 := am hbox; clear hb hbox hg_ hk_; have nb12_3 : gb12 ≠ gb3 := (by have := LEW1.1; have := GL3.1; have := GH3.1; have := LEW2.1; have := LEW3.1; have := LEW4.1; have := LEW5.1; have := LEW6.1; have := LEW7.1; have := GL8.1; have := GH8.1; have := LEW8.1; have := LEW9.1; have := GL10.1; have := GH10.1; have := LEW10.1; have := LEW11.1; have := LEW12.1; have := GL12.1; have := GH12.1;  omega); have nb3_12 : gb3 ≠ gb12 := (by have := LEW1.1; have := GL3.1; have := GH3.1; have := LEW2.1; have := LEW3.1; have := LEW4.1; have := LEW5.1; have := LEW6.1; have := LEW7.1; have := GL8.1; have := GH8.1; have := LEW8.1; have := LEW9.1; have := GL10.1; have := GH10.1; have := LEW10.1; have := LEW11.1; have := LEW12.1; have := GL12.1; have := GH12.1;  omega); have nb12_8 : gb12 ≠ gb8 := (by have := LEW1.1; have := GL3.1; have := GH3.1; have := LEW2.1; have := LEW3.1; have := LEW4.1; have := LEW5.1; have := LEW6.1; have := LEW7.1; have := GL8.1; have := GH8.1; have := LEW8.1; have := LEW9.1; have := GL10.1; have := GH10.1; have := LEW10.1; have := LEW11.1; have := LEW12.1; have := GL12.1; have := GH12.1;  omega); have nb8_12 : gb8 ≠ gb12 := (by have := LEW1.1; have := GL3.1; have := GH3.1; have := LEW2.1; have := LEW3.1; have := LEW4.1; have := LEW5.1; have := LEW6.1; have := LEW7.1; have := GL8.1; have := GH8.1; have := LEW8.1; have := LEW9.1; have := GL10.1; have := GH10.1; have := LEW10.1; have := LEW11.1; have := LEW12.1; have := GL12.1; have := GH12.1;  omega); have nb12_10 : gb12 ≠ gb10 := (by have := LEW1.1; have := GL3.1; have := GH3.1; have := LEW2.1; have := LEW3.1; have := LEW4.1; have := LEW5.1; have := LEW6.1; have := LEW7.1; have := GL8.1; have := GH8.1; have := LEW8.1; have := LEW9.1; have := GL10.1; have := GH10.1; have := LEW10.1; have := LEW11.1; have := LEW12.1; have := GL12.1; have := GH12.1;  omega); have nb10_12 : gb10 ≠ gb12 := (by have := LEW1.1; have := GL3.1; have := GH3.1; have := LEW2.1; have := LEW3.1; have := LEW4.1; have := LEW5.1; have := LEW6.1; have := LEW7.1; have := GL8.1; have := GH8.1; have := LEW8.1; have := LEW9.1; have := GL10.1; have := GH10.1; have := LEW10.1; have := LEW11.1; have := LEW12.1; have := GL12.1; have := GH12.1;  omega); (try clear hcz12_0 hcz12_1 hfz12_0 hfz12_1); obtain ⟨hcz12_0, hcz12_1, hfz12_0, hfz12_1⟩ := cz2 BK12; (try clear hcz8_0 hcz8_1 hfz8_0 hfz8_1); obtain ⟨hcz8_0, hcz8_1, hfz8_0, hfz8_1⟩ := cz2 BK8) | ((with_reducible refine gate_callee (f := 25) rfl ?_); refine goesL_ (some 54) rfl rfl Try.func25 (by kernel_rfl) rfl #[.agg #[.slice Ag0 g1.length cg0, .slice Ag1 g2.length cg1], .agg #[.slice Aw0 w1.length cw0, .slice Aw1 w2.length cw1]] rfl (pY54) ?_; (refine (BkS.eqN (k := k) (r := true) (BkS.kept KG.out (Kept.two (w := W12) (g := gb12) 0 1 (.slice Ag0 g1.length cg0) (.slice Ag1 g2.length cg1)) (fun k_ h1_ h2_ e_ => by have := LEW1.1; have := GL3.1; have := GH3.1; have := LEW2.1; have := LEW3.1; have := LEW4.1; have := LEW5.1; have := LEW6.1; have := LEW7.1; have := GL8.1; have := GH8.1; have := LEW8.1; have := LEW9.1; have := GL10.1; have := GH10.1; have := LEW10.1; have := LEW11.1; have := LEW12.1; have := GL12.1; have := GH12.1;  omega)) (BkN.kept KW.out (Kept.two (w := W12) (g := gb12) 0 1 (.slice Ag0 g1.length cg0) (.slice Ag1 g2.length cg1)) (fun k_ h1_ h2_ e_ => by have := LEW1.1; have := GL3.1; have := GH3.1; have := LEW2.1; have := LEW3.1; have := LEW4.1; have := LEW5.1; have := LEW6.1; have := LEW7.1; have := GL8.1; have := GH8.1; have := LEW8.1; have := LEW9.1; have := GL10.1; have := GH10.1; have := LEW10.1; have := LEW11.1; have := LEW12.1; have := GL12.1; have := GH12.1;  omega)) D7.1).mono ?_); rintro e_ W13 ⟨rfl, hb⟩; refine ⟨_, rfl, ?_⟩; have HB0 := am (show w.heap.size ≤ W12.heap.size from HB.1.size); have hk_ : Kept W12 W13 (fun k => k = gb12) := (Kept.two (w := W12) (g := gb12) 0 1 (.slice Ag0 g1.length cg0) (.slice Ag1 g2.length cg1)).below hb; have LEW13 := am (show W12.heap.size ≤ W13.heap.size from hk_.1); replace KW := am (BkN.kept KW.out hk_ (fun k_ h1_ h2_ e_ => by have := LEW1.1; have := GL3.1; have := GH3.1; have := LEW2.1; have := LEW3.1; have := LEW4.1; have := LEW5.1; have := LEW6.1; have := LEW7.1; have := GL8.1; have := GH8.1; have := LEW8.1; have := LEW9.1; have := GL10.1; have := GH10.1; have := LEW10.1; have := LEW11.1; have := LEW12.1; have := GL12.1; have := GH12.1;  omega)); replace KX := am (BkS.kept KX.out hk_ (fun k_ h1_ h2_ e_ => by have := LEW1.1; have := GL3.1; have := GH3.1; have := LEW2.1; have := LEW3.1; have := LEW4.1; have := LEW5.1; have := LEW6.1; have := LEW7.1; have := GL8.1; have := GH8.1; have := LEW8.1; have := LEW9.1; have := GL10.1; have := GH10.1; have := LEW10.1; have := LEW11.1; have := LEW12.1; have := GL12.1; have := GH12.1;  omega)); replace KY := am (RwS.kept KY.out hk_ (fun k_ h1_ h2_ e_ => by have := LEW1.1; have := GL3.1; have := GH3.1; have := LEW2.1; have := LEW3.1; have := LEW4.1; have := LEW5.1; have := LEW6.1; have := LEW7.1; have := GL8.1; have := GH8.1; have := LEW8.1; have := LEW9.1; have := GL10.1; have := GH10.1; have := LEW10.1; have := LEW11.1; have := LEW12.1; have := GL12.1; have := GH12.1;  omega)); replace KG := am (BkS.kept KG.out hk_ (fun k_ h1_ h2_ e_ => by have := LEW1.1; have := GL3.1; have := GH3.1; have := LEW2.1; have := LEW3.1; have := LEW4.1; have := LEW5.1; have := LEW6.1; have := LEW7.1; have := GL8.1; have := GH8.1; have := LEW8.1; have := LEW9.1; have := GL10.1; have := GH10.1; have := LEW10.1; have := LEW11.1; have := LEW12.1; have := GL12.1; have := GH12.1;  omega)); replace BK3 := am (blk_kept BK3.1 hk_ (fun e_ => by have := LEW1.1; have := GL3.1; have := GH3.1; have := LEW2.1; have := LEW3.1; have := LEW4.1; have := LEW5.1; have := LEW6.1; have := LEW7.1; have := GL8.1; have := GH8.1; have := LEW8.1; have := LEW9.1; have := GL10.1; have := GH10.1; have := LEW10.1; have := LEW11.1; have := LEW12.1; have := GL12.1; have := GH12.1;  omega)); replace BK8 := am (blk_kept BK8.1 hk_ (fun e_ => by have := LEW1.1; have := GL3.1; have := GH3.1; have := LEW2.1; have := LEW3.1; have := LEW4.1; have := LEW5.1; have := LEW6.1; have := LEW7.1; have := GL8.1; have := GH8.1; have := LEW8.1; have := LEW9.1; have := GL10.1; have := GH10.1; have := LEW10.1; have := LEW11.1; have := LEW12.1; have := GL12.1; have := GH12.1;  omega)); replace BK10 := am (blk_kept BK10.1 hk_ (fun e_ => by have := LEW1.1; have := GL3.1; have := GH3.1; have := LEW2.1; have := LEW3.1; have := LEW4.1; have := LEW5.1; have := LEW6.1; have := LEW7.1; have := GL8.1; have := GH8.1; have := LEW8.1; have := LEW9.1; have := GL10.1; have := GH10.1; have := LEW10.1; have := LEW11.1; have := LEW12.1; have := GL12.1; have := GH12.1;  omega)); replace BK12 := am (blk_below (g := gb12) (o := .cells #[.slice Ag0 g1.length cg0, .slice Ag1 g2.length cg1] 31 (0, 0)) (blk_put (cs := #[.slice Ag0 g1.length cg0, .slice none 0 0]) (blk_put (cs := #[.slice none 0 0, .slice none 0 0]) BK12.1 0 _ rfl) 1 _ rfl) hb); replace HB := am (below_step (below_set (below_set HB.1 GE12.1) GE12.1) hb); (try clear hb); (try clear hk_); (try clear hkk); (try clear hbb); (try clear hcz3_0 hcz3_1 hfz3_0 hfz3_1); obtain ⟨hcz3_0, hcz3_1, hfz3_0, hfz3_1⟩ := cz2 BK3; (try clear hcz10_0 hcz10_1 hfz10_0 hfz10_1); obtain ⟨hcz10_0, hcz10_1, hfz10_0, hfz10_1⟩ := cz2 BK10; (try clear HB0)))
 have n0_ := am (BkN.kept KW.out (w' := W13.drew) (Kept.noth (below_drew1 (Below.refl _ _))) (fun _ _ _ h => h))
 have n1_ := am (BkS.kept KX.out (w' := W13.drew) (Kept.noth (below_drew1 (Below.refl _ _))) (fun _ _ _ h => h))
 have n2_ := am (RwS.kept KY.out (w' := W13.drew) (Kept.noth (below_drew1 (Below.refl _ _))) (fun _ _ _ h => h))
 have n3_ := am (BkS.kept KG.out (w' := W13.drew) (Kept.noth (below_drew1 (Below.refl _ _))) (fun _ _ _ h => h))
 have n4_ := am (blk_drew BK3.1)
 have n5_ := am (blk_drew BK8.1)
 have n6_ := am (blk_drew BK10.1)
 have n7_ := am (blk_drew BK12.1)
 have n8_ := am (below_drew1 HB.1)
 have nle_ := am (show W13.heap.size ≤ W13.drew.heap.size from Nat.le_refl _)
 clear KW KX KY KG BK3 BK8 BK10 BK12 HB
 have KW := n0_
 have KX := n1_
 have KY := n2_
 have KG := n3_
 have BK3 := n4_
 have BK8 := n5_
 have BK10 := n6_
 have BK12 := n7_
 have HB := n8_
 clear n0_ n1_ n2_ n3_ n4_ n5_ n6_ n7_ n8_
 refine sT [] 5 (uB2 BK10 (uA2 BK3)) (fun hHeld => ?_)
 generalize W13.drew = W14 at KW KX KY KG BK3 BK8 BK10 BK12 HB nle_ hHeld ⊢
 have LEW14 := nle_
 clear nle_
 refine tK4_ 0 (some 61) ?_
 refine tK4_ 1 (some 62) ?_
 refine oM 2 (some 63) fun K hK => ?_
 refine goes_ Try.func23 (by kernel_rfl) rfl #[.agg #[.slice A0_0 l0.length c0_0, .slice A0_1 l1.length c0_1]] (by rfl) rfl rfl (pY54) ?_
 (refine (laws_toShareBook.calls k _ _ l0 _ _ l1 t2a t2b _ (Kd.C_below HR0_0.1 HB.1) HC0_0.1 (Kd.C_below HR0_1.1 HB.1) HC0_1.1 D8.1).mono ?_)
 rintro e_ W15 ⟨_, _, rfl, ho0, ho1, hb⟩
 refine ⟨_, rfl, ?_⟩
 have HB0 := am (show w.heap.size ≤ W14.heap.size from HB.1.size)
 have hk_ : Kept W14 W15 (fun _ => False) := Kept.noth hb
 have LEW15 := am (show W14.heap.size ≤ W15.heap.size from hk_.1)
 replace KW := am (BkN.kept KW.out hk_ (fun _ _ _ h => h))
 replace KX := am (BkS.kept KX.out hk_ (fun _ _ _ h => h))
 replace KY := am (RwS.kept KY.out hk_ (fun _ _ _ h => h))
 replace KG := am (BkS.kept KG.out hk_ (fun _ _ _ h => h))
 replace BK3 := kB BK3 hk_
 replace BK8 := kB BK8 hk_
 replace BK10 := kB BK10 hk_
 replace BK12 := kB BK12 hk_
 replace HB := bS HB.1 hb
 have KV := am (BkS.made (n := W14.heap.size) ho0 ho1 (HB0.out) (Nat.le_refl _))
 clear ho0 ho1
 obtain ⟨Av0, cv0, Av1, cv1, e0_, e1_⟩ := KV.out.slices
 subst e0_; subst e1_
 (try clear hb)
 (try clear hk_)
 (try clear hkk)
 (try clear hbb)
 (try clear HB0)
 refine hK.out _ _ (uB2 BK10 (uA2 BK3)).1 (fun hHeld => ?_)
 clear hK K
 refine nM ?_
 refine oM 3 (some 64) fun K hK => ?_
 refine goes_ Try.func25 (by kernel_rfl) rfl #[.agg #[.slice Ax0 x1.length cx0, .slice Ax1 xb.length cx1], .agg #[.slice Av0 t2a.length cv0, .slice Av1 t2b.length cv1]] (by rfl) rfl rfl (pY54) ?_
 (refine (BkS.eqS (k := k) (r := true) KX.out KV.out D9.1).mono ?_)
 rintro e_ W16 ⟨rfl, hb⟩
 refine ⟨_, rfl, ?_⟩
 have HB0 := am (show w.heap.size ≤ W15.heap.size from HB.1.size)
 have hk_ : Kept W15 W16 (fun _ => False) := Kept.noth hb
 have LEW16 := am (show W15.heap.size ≤ W16.heap.size from hk_.1)
 replace KW := am (BkN.kept KW.out hk_ (fun _ _ _ h => h))
 replace KX := am (BkS.kept KX.out hk_ (fun _ _ _ h => h))
 replace KY := am (RwS.kept KY.out hk_ (fun _ _ _ h => h))
 replace KG := am (BkS.kept KG.out hk_ (fun _ _ _ h => h))
 replace BK3 := kB BK3 hk_
 replace BK8 := kB BK8 hk_
 replace BK10 := kB BK10 hk_
 replace BK12 := kB BK12 hk_
 clear KV
 replace HB := bS HB.1 hb
 (try clear hb)
 (try clear hk_)
 (try clear hkk)
 (try clear hbb)
 (try clear HB0)
 refine hK.out _ _ (uB2 BK10 (uA2 BK3)).1 (fun hHeld => ?_)
 clear hK K
 refine nM ?_
 refine pU0 4 (some 65) ?_
 refine done_ (by kernel_rfl) ?_
 (try clear hcz3_0 hcz3_1 hfz3_0 hfz3_1)
 obtain ⟨hcz3_0, hcz3_1, hfz3_0, hfz3_1⟩ := cz2 BK3
 (try clear hcz10_0 hcz10_1 hfz10_0 hfz10_1)
 obtain ⟨hcz10_0, hcz10_1, hfz10_0, hfz10_1⟩ := cz2 BK10
 go_wp2_with (first | ((with_reducible refine gate_callee (f := 32) rfl ?_); refine goesL_ (some 68) rfl rfl Try.func32 (by kernel_rfl) rfl #[.slice A2 l2.length c2] rfl (pY54) ?_; (refine (laws_toStringS.calls k _ _ l2 u2 _ (Kd.C_below HR2.1 HB.1) HC2.1 D10.1).mono ?_); rintro e_ W17 ⟨_, rfl, ho0, hb⟩; refine ⟨_, rfl, ?_⟩; have HB0 := am (show w.heap.size ≤ W16.heap.size from HB.1.size); have hk_ : Kept W16 W17 (fun _ => False) := Kept.noth hb; have LEW17 := am (show W16.heap.size ≤ W17.heap.size from hk_.1); replace KW := am (BkN.kept KW.out hk_ (fun _ _ _ h => h)); replace KX := am (BkS.kept KX.out hk_ (fun _ _ _ h => h)); replace KY := am (RwS.kept KY.out hk_ (fun _ _ _ h => h)); replace KG := am (BkS.kept KG.out hk_ (fun _ _ _ h => h)); replace BK3 := kB BK3 hk_; replace BK8 := kB BK8 hk_; replace BK10 := kB BK10 hk_; replace BK12 := kB BK12 hk_; replace HB := bS HB.1 hb; have KU := am (RwS.made (n := W16.heap.size) ho0 (HB0.out) (Nat.le_refl _)); clear ho0; obtain ⟨As0, cs0, e0_⟩ := KU.out.slices; subst e0_; (try clear hb); (try clear hk_); (try clear hkk); (try clear hbb); (try clear hcz10_0 hcz10_1 hfz10_0 hfz10_1); obtain ⟨hcz10_0, hcz10_1, hfz10_0, hfz10_1⟩ := cz2 BK10; (try clear HB0)) | ((with_reducible refine gate_callee (f := 34) rfl ?_); refine goesL_ (some 69) rfl rfl Try.func34 (by kernel_rfl) rfl #[.slice Ay0 x2.length cy0, .slice As0 u2.length cs0] rfl (pY54) ?_; (refine (RwS.eq (k := k) (r := true) KY.out KU.out D11.1).mono ?_); rintro e_ W18 ⟨rfl, hb⟩; refine ⟨_, rfl, ?_⟩; have HB0 := am (show w.heap.size ≤ W17.heap.size from HB.1.size); have hk_ : Kept W17 W18 (fun _ => False) := Kept.noth hb; have LEW18 := am (show W17.heap.size ≤ W18.heap.size from hk_.1); replace KW := am (BkN.kept KW.out hk_ (fun _ _ _ h => h)); replace KX := am (BkS.kept KX.out hk_ (fun _ _ _ h => h)); replace KY := am (RwS.kept KY.out hk_ (fun _ _ _ h => h)); replace KG := am (BkS.kept KG.out hk_ (fun _ _ _ h => h)); replace BK3 := kB BK3 hk_; replace BK8 := kB BK8 hk_; replace BK10 := kB BK10 hk_; replace BK12 := kB BK12 hk_; clear KU; replace HB := bS HB.1 hb; (try clear hb); (try clear hk_); (try clear hkk); (try clear hbb); (try clear hcz10_0 hcz10_1 hfz10_0 hfz10_1); obtain ⟨hcz10_0, hcz10_1, hfz10_0, hfz10_1⟩ := cz2 BK10; (try clear HB0)) | ((with_reducible refine gate_callee (f := 39) rfl ?_); refine goesL_ (some 73) rfl rfl Try.func39 (by kernel_rfl) rfl #[.agg #[.slice Ax0 x1.length cx0, .slice Ax1 xb.length cx1], .int .i64 1] rfl (pY54) ?_; (refine (BkS.mark (k := k) (q := p) KX.out HB.1 D12.1).mono ?_); rintro e_ W19 ⟨rfl, hy, hbb, hkk⟩; refine ⟨_, rfl, ?_⟩; have HB0 := am (show w.heap.size ≤ W18.heap.size from HB.1.size); have hk_ := hkk; have LEW19 := am (show W18.heap.size ≤ W19.heap.size from hk_.1); replace KW := am (BkN.kept KW.out hk_ (fun k_ h1_ h2_ e_ => by obtain ⟨e1_, e2_⟩ := e_; have := LEW1.1; have := GL3.1; have := GH3.1; have := LEW2.1; have := LEW3.1; have := LEW4.1; have := LEW5.1; have := LEW6.1; have := LEW7.1; have := GL8.1; have := GH8.1; have := LEW8.1; have := LEW9.1; have := GL10.1; have := GH10.1; have := LEW10.1; have := LEW11.1; have := LEW12.1; have := GL12.1; have := GH12.1; have := LEW13.1; have := LEW14.1; have := LEW15.1; have := LEW16.1; have := LEW17.1; have := LEW18.1;  omega)); replace KY := am (RwS.kept KY.out hk_ (fun k_ h1_ h2_ e_ => by obtain ⟨e1_, e2_⟩ := e_; have := LEW1.1; have := GL3.1; have := GH3.1; have := LEW2.1; have := LEW3.1; have := LEW4.1; have := LEW5.1; have := LEW6.1; have := LEW7.1; have := GL8.1; have := GH8.1; have := LEW8.1; have := LEW9.1; have := GL10.1; have := GH10.1; have := LEW10.1; have := LEW11.1; have := LEW12.1; have := GL12.1; have := GH12.1; have := LEW13.1; have := LEW14.1; have := LEW15.1; have := LEW16.1; have := LEW17.1; have := LEW18.1;  omega)); replace KG := am (BkS.kept KG.out hk_ (fun k_ h1_ h2_ e_ => by obtain ⟨e1_, e2_⟩ := e_; have := LEW1.1; have := GL3.1; have := GH3.1; have := LEW2.1; have := LEW3.1; have := LEW4.1; have := LEW5.1; have := LEW6.1; have := LEW7.1; have := GL8.1; have := GH8.1; have := LEW8.1; have := LEW9.1; have := GL10.1; have := GH10.1; have := LEW10.1; have := LEW11.1; have := LEW12.1; have := GL12.1; have := GH12.1; have := LEW13.1; have := LEW14.1; have := LEW15.1; have := LEW16.1; have := LEW17.1; have := LEW18.1;  omega)); replace BK3 := am (blk_kept BK3.1 hk_ (fun e_ => by obtain ⟨e1_, e2_⟩ := e_; have := LEW1.1; have := GL3.1; have := GH3.1; have := LEW2.1; have := LEW3.1; have := LEW4.1; have := LEW5.1; have := LEW6.1; have := LEW7.1; have := GL8.1; have := GH8.1; have := LEW8.1; have := LEW9.1; have := GL10.1; have := GH10.1; have := LEW10.1; have := LEW11.1; have := LEW12.1; have := GL12.1; have := GH12.1; have := LEW13.1; have := LEW14.1; have := LEW15.1; have := LEW16.1; have := LEW17.1; have := LEW18.1;  omega)); replace BK8 := am (blk_kept BK8.1 hk_ (fun e_ => by obtain ⟨e1_, e2_⟩ := e_; have := LEW1.1; have := GL3.1; have := GH3.1; have := LEW2.1; have := LEW3.1; have := LEW4.1; have := LEW5.1; have := LEW6.1; have := LEW7.1; have := GL8.1; have := GH8.1; have := LEW8.1; have := LEW9.1; have := GL10.1; have := GH10.1; have := LEW10.1; have := LEW11.1; have := LEW12.1; have := GL12.1; have := GH12.1; have := LEW13.1; have := LEW14.1; have := LEW15.1; have := LEW16.1; have := LEW17.1; have := LEW18.1;  omega)); replace BK10 := am (blk_kept BK10.1 hk_ (fun e_ => by obtain ⟨e1_, e2_⟩ := e_; have := LEW1.1; have := GL3.1; have := GH3.1; have := LEW2.1; have := LEW3.1; have := LEW4.1; have := LEW5.1; have := LEW6.1; have := LEW7.1; have := GL8.1; have := GH8.1; have := LEW8.1; have := LEW9.1; have := GL10.1; have := GH10.1; have := LEW10.1; have := LEW11.1; have := LEW12.1; have := GL12.1; have := GH12.1; have := LEW13.1; have := LEW14.1; have := LEW15.1; have := LEW16.1; have := LEW17.1; have := LEW18.1;  omega)); replace BK12 := am (blk_kept BK12.1 hk_ (fun e_ => by obtain ⟨e1_, e2_⟩ := e_; have := LEW1.1; have := GL3.1; have := GH3.1; have := LEW2.1; have := LEW3.1; have := LEW4.1; have := LEW5.1; have := LEW6.1; have := LEW7.1; have := GL8.1; have := GH8.1; have := LEW8.1; have := LEW9.1; have := GL10.1; have := GH10.1; have := LEW10.1; have := LEW11.1; have := LEW12.1; have := GL12.1; have := GH12.1; have := LEW13.1; have := LEW14.1; have := LEW15.1; have := LEW16.1; have := LEW17.1; have := LEW18.1;  omega)); clear KX; replace HB := am hbb; have KX := am hy; clear hy; (try clear hb); (try clear hk_); (try clear hkk); (try clear hbb); (try clear hcz12_0 hcz12_1 hfz12_0 hfz12_1); obtain ⟨hcz12_0, hcz12_1, hfz12_0, hfz12_1⟩ := cz2 BK12; (try clear hcz8_0 hcz8_1 hfz8_0 hfz8_1); obtain ⟨hcz8_0, hcz8_1, hfz8_0, hfz8_1⟩ := cz2 BK8; (try clear HB0)) | ((with_reducible refine gate_callee (f := 40) rfl ?_); refine goesL_ (some 76) rfl rfl Try.func40 (by kernel_rfl) rfl #[.slice Ay0 x2.length cy0, .int .i64 p] rfl (pY54) ?_; (refine (RwS.mark (k := k) (q := p2) KY.out HB.1 D13.1).mono ?_); rintro e_ W20 ⟨rfl, hy, hbb, hkk⟩; refine ⟨_, rfl, ?_⟩; have HB0 := am (show w.heap.size ≤ W19.heap.size from HB.1.size); have hk_ := hkk; have LEW20 := am (show W19.heap.size ≤ W20.heap.size from hk_.1); replace KW := am (BkN.kept KW.out hk_ (fun k_ h1_ h2_ e_ => by obtain ⟨e1_, e2_⟩ := e_; have := LEW1.1; have := GL3.1; have := GH3.1; have := LEW2.1; have := LEW3.1; have := LEW4.1; have := LEW5.1; have := LEW6.1; have := LEW7.1; have := GL8.1; have := GH8.1; have := LEW8.1; have := LEW9.1; have := GL10.1; have := GH10.1; have := LEW10.1; have := LEW11.1; have := LEW12.1; have := GL12.1; have := GH12.1; have := LEW13.1; have := LEW14.1; have := LEW15.1; have := LEW16.1; have := LEW17.1; have := LEW18.1; have := LEW19.1;  omega)); replace KG := am (BkS.kept KG.out hk_ (fun k_ h1_ h2_ e_ => by obtain ⟨e1_, e2_⟩ := e_; have := LEW1.1; have := GL3.1; have := GH3.1; have := LEW2.1; have := LEW3.1; have := LEW4.1; have := LEW5.1; have := LEW6.1; have := LEW7.1; have := GL8.1; have := GH8.1; have := LEW8.1; have := LEW9.1; have := GL10.1; have := GH10.1; have := LEW10.1; have := LEW11.1; have := LEW12.1; have := GL12.1; have := GH12.1; have := LEW13.1; have := LEW14.1; have := LEW15.1; have := LEW16.1; have := LEW17.1; have := LEW18.1; have := LEW19.1;  omega)); replace KX := am (BkS.kept KX.out hk_ (fun k_ h1_ h2_ e_ => by obtain ⟨e1_, e2_⟩ := e_; have := LEW1.1; have := GL3.1; have := GH3.1; have := LEW2.1; have := LEW3.1; have := LEW4.1; have := LEW5.1; have := LEW6.1; have := LEW7.1; have := GL8.1; have := GH8.1; have := LEW8.1; have := LEW9.1; have := GL10.1; have := GH10.1; have := LEW10.1; have := LEW11.1; have := LEW12.1; have := GL12.1; have := GH12.1; have := LEW13.1; have := LEW14.1; have := LEW15.1; have := LEW16.1; have := LEW17.1; have := LEW18.1; have := LEW19.1;  omega)); replace BK3 := am (blk_kept BK3.1 hk_ (fun e_ => by obtain ⟨e1_, e2_⟩ := e_; have := LEW1.1; have := GL3.1; have := GH3.1; have := LEW2.1; have := LEW3.1; have := LEW4.1; have := LEW5.1; have := LEW6.1; have := LEW7.1; have := GL8.1; have := GH8.1; have := LEW8.1; have := LEW9.1; have := GL10.1; have := GH10.1; have := LEW10.1; have := LEW11.1; have := LEW12.1; have := GL12.1; have := GH12.1; have := LEW13.1; have := LEW14.1; have := LEW15.1; have := LEW16.1; have := LEW17.1; have := LEW18.1; have := LEW19.1;  omega)); replace BK8 := am (blk_kept BK8.1 hk_ (fun e_ => by obtain ⟨e1_, e2_⟩ := e_; have := LEW1.1; have := GL3.1; have := GH3.1; have := LEW2.1; have := LEW3.1; have := LEW4.1; have := LEW5.1; have := LEW6.1; have := LEW7.1; have := GL8.1; have := GH8.1; have := LEW8.1; have := LEW9.1; have := GL10.1; have := GH10.1; have := LEW10.1; have := LEW11.1; have := LEW12.1; have := GL12.1; have := GH12.1; have := LEW13.1; have := LEW14.1; have := LEW15.1; have := LEW16.1; have := LEW17.1; have := LEW18.1; have := LEW19.1;  omega)); replace BK10 := am (blk_kept BK10.1 hk_ (fun e_ => by obtain ⟨e1_, e2_⟩ := e_; have := LEW1.1; have := GL3.1; have := GH3.1; have := LEW2.1; have := LEW3.1; have := LEW4.1; have := LEW5.1; have := LEW6.1; have := LEW7.1; have := GL8.1; have := GH8.1; have := LEW8.1; have := LEW9.1; have := GL10.1; have := GH10.1; have := LEW10.1; have := LEW11.1; have := LEW12.1; have := GL12.1; have := GH12.1; have := LEW13.1; have := LEW14.1; have := LEW15.1; have := LEW16.1; have := LEW17.1; have := LEW18.1; have := LEW19.1;  omega)); replace BK12 := am (blk_kept BK12.1 hk_ (fun e_ => by obtain ⟨e1_, e2_⟩ := e_; have := LEW1.1; have := GL3.1; have := GH3.1; have := LEW2.1; have := LEW3.1; have := LEW4.1; have := LEW5.1; have := LEW6.1; have := LEW7.1; have := GL8.1; have := GH8.1; have := LEW8.1; have := LEW9.1; have := GL10.1; have := GH10.1; have := LEW10.1; have := LEW11.1; have := LEW12.1; have := GL12.1; have := GH12.1; have := LEW13.1; have := LEW14.1; have := LEW15.1; have := LEW16.1; have := LEW17.1; have := LEW18.1; have := LEW19.1;  omega)); clear KY; replace HB := am hbb; have KY := am hy; clear hy; (try clear hb); (try clear hk_); (try clear hkk); (try clear hbb); (try clear hcz12_0 hcz12_1 hfz12_0 hfz12_1); obtain ⟨hcz12_0, hcz12_1, hfz12_0, hfz12_1⟩ := cz2 BK12; (try clear hcz8_0 hcz8_1 hfz8_0 hfz8_1); obtain ⟨hcz8_0, hcz8_1, hfz8_0, hfz8_1⟩ := cz2 BK8; (try clear HB0)) | (go_at_call 25; refine cM (BkS.eqN (k := k) (r := true) KG.out KW.out D14.1) ?_; rintro W21 hb; have HB0 := am (show w.heap.size ≤ W20.heap.size from HB.1.size); have hk_ : Kept W20 W21 (fun _ => False) := Kept.noth hb; have LEW21 := am (show W20.heap.size ≤ W21.heap.size from hk_.1); replace KW := am (BkN.kept KW.out hk_ (fun _ _ _ h => h)); replace KG := am (BkS.kept KG.out hk_ (fun _ _ _ h => h)); replace KX := am (BkS.kept KX.out hk_ (fun _ _ _ h => h)); replace KY := am (RwS.kept KY.out hk_ (fun _ _ _ h => h)); replace BK3 := kB BK3 hk_; replace BK8 := kB BK8 hk_; replace BK10 := kB BK10 hk_; replace BK12 := kB BK12 hk_; replace HB := bS HB.1 hb; (try clear hb); (try clear hk_); (try clear hkk); (try clear hbb); (try clear hcz12_0 hcz12_1 hfz12_0 hfz12_1); obtain ⟨hcz12_0, hcz12_1, hfz12_0, hfz12_1⟩ := cz2 BK12; (try clear HB0)) | ((with_reducible refine gate_callee (f := 39) rfl ?_); refine goesL_ (some 92) rfl rfl Try.func39 (by kernel_rfl) rfl #[.agg #[.slice Ag0 g1.length cg0, .slice Ag1 g2.length cg1], .int .i64 1] rfl (pY54) ?_; (refine (BkS.mark (k := k) (q := q2) KG.out HB.1 D15.1).mono ?_); rintro e_ W22 ⟨rfl, hy, hbb, hkk⟩; refine ⟨_, rfl, ?_⟩; have HB0 := am (show w.heap.size ≤ W21.heap.size from HB.1.size); have hk_ := hkk; have LEW22 := am (show W21.heap.size ≤ W22.heap.size from hk_.1); replace KW := am (BkN.kept KW.out hk_ (fun k_ h1_ h2_ e_ => by obtain ⟨e1_, e2_⟩ := e_; have := LEW1.1; have := GL3.1; have := GH3.1; have := LEW2.1; have := LEW3.1; have := LEW4.1; have := LEW5.1; have := LEW6.1; have := LEW7.1; have := GL8.1; have := GH8.1; have := LEW8.1; have := LEW9.1; have := GL10.1; have := GH10.1; have := LEW10.1; have := LEW11.1; have := LEW12.1; have := GL12.1; have := GH12.1; have := LEW13.1; have := LEW14.1; have := LEW15.1; have := LEW16.1; have := LEW17.1; have := LEW18.1; have := LEW19.1; have := LEW20.1; have := LEW21.1;  omega)); replace KX := am (BkS.kept KX.out hk_ (fun k_ h1_ h2_ e_ => by obtain ⟨e1_, e2_⟩ := e_; have := LEW1.1; have := GL3.1; have := GH3.1; have := LEW2.1; have := LEW3.1; have := LEW4.1; have := LEW5.1; have := LEW6.1; have := LEW7.1; have := GL8.1; have := GH8.1; have := LEW8.1; have := LEW9.1; have := GL10.1; have := GH10.1; have := LEW10.1; have := LEW11.1; have := LEW12.1; have := GL12.1; have := GH12.1; have := LEW13.1; have := LEW14.1; have := LEW15.1; have := LEW16.1; have := LEW17.1; have := LEW18.1; have := LEW19.1; have := LEW20.1; have := LEW21.1;  omega)); replace KY := am (RwS.kept KY.out hk_ (fun k_ h1_ h2_ e_ => by obtain ⟨e1_, e2_⟩ := e_; have := LEW1.1; have := GL3.1; have := GH3.1; have := LEW2.1; have := LEW3.1; have := LEW4.1; have := LEW5.1; have := LEW6.1; have := LEW7.1; have := GL8.1; have := GH8.1; have := LEW8.1; have := LEW9.1; have := GL10.1; have := GH10.1; have := LEW10.1; have := LEW11.1; have := LEW12.1; have := GL12.1; have := GH12.1; have := LEW13.1; have := LEW14.1; have := LEW15.1; have := LEW16.1; have := LEW17.1; have := LEW18.1; have := LEW19.1; have := LEW20.1; have := LEW21.1;  omega)); replace BK3 := am (blk_kept BK3.1 hk_ (fun e_ => by obtain ⟨e1_, e2_⟩ := e_; have := LEW1.1; have := GL3.1; have := GH3.1; have := LEW2.1; have := LEW3.1; have := LEW4.1; have := LEW5.1; have := LEW6.1; have := LEW7.1; have := GL8.1; have := GH8.1; have := LEW8.1; have := LEW9.1; have := GL10.1; have := GH10.1; have := LEW10.1; have := LEW11.1; have := LEW12.1; have := GL12.1; have := GH12.1; have := LEW13.1; have := LEW14.1; have := LEW15.1; have := LEW16.1; have := LEW17.1; have := LEW18.1; have := LEW19.1; have := LEW20.1; have := LEW21.1;  omega)); replace BK8 := am (blk_kept BK8.1 hk_ (fun e_ => by obtain ⟨e1_, e2_⟩ := e_; have := LEW1.1; have := GL3.1; have := GH3.1; have := LEW2.1; have := LEW3.1; have := LEW4.1; have := LEW5.1; have := LEW6.1; have := LEW7.1; have := GL8.1; have := GH8.1; have := LEW8.1; have := LEW9.1; have := GL10.1; have := GH10.1; have := LEW10.1; have := LEW11.1; have := LEW12.1; have := GL12.1; have := GH12.1; have := LEW13.1; have := LEW14.1; have := LEW15.1; have := LEW16.1; have := LEW17.1; have := LEW18.1; have := LEW19.1; have := LEW20.1; have := LEW21.1;  omega)); replace BK10 := am (blk_kept BK10.1 hk_ (fun e_ => by obtain ⟨e1_, e2_⟩ := e_; have := LEW1.1; have := GL3.1; have := GH3.1; have := LEW2.1; have := LEW3.1; have := LEW4.1; have := LEW5.1; have := LEW6.1; have := LEW7.1; have := GL8.1; have := GH8.1; have := LEW8.1; have := LEW9.1; have := GL10.1; have := GH10.1; have := LEW10.1; have := LEW11.1; have := LEW12.1; have := GL12.1; have := GH12.1; have := LEW13.1; have := LEW14.1; have := LEW15.1; have := LEW16.1; have := LEW17.1; have := LEW18.1; have := LEW19.1; have := LEW20.1; have := LEW21.1;  omega)); replace BK12 := am (blk_kept BK12.1 hk_ (fun e_ => by obtain ⟨e1_, e2_⟩ := e_; have := LEW1.1; have := GL3.1; have := GH3.1; have := LEW2.1; have := LEW3.1; have := LEW4.1; have := LEW5.1; have := LEW6.1; have := LEW7.1; have := GL8.1; have := GH8.1; have := LEW8.1; have := LEW9.1; have := GL10.1; have := GH10.1; have := LEW10.1; have := LEW11.1; have := LEW12.1; have := GL12.1; have := GH12.1; have := LEW13.1; have := LEW14.1; have := LEW15.1; have := LEW16.1; have := LEW17.1; have := LEW18.1; have := LEW19.1; have := LEW20.1; have := LEW21.1;  omega)); clear KG; replace HB := am hbb; have KG := am hy; clear hy; (try clear hb); (try clear hk_); (try clear hkk); (try clear hbb); (try clear hcz12_0 hcz12_1 hfz12_0 hfz12_1); obtain ⟨hcz12_0, hcz12_1, hfz12_0, hfz12_1⟩ := cz2 BK12; (try clear HB0)) | ((with_reducible refine gate_callee (f := 48) rfl ?_); refine goesL_ (some 95) rfl rfl Try.func48 (by kernel_rfl) rfl #[.agg #[.slice Ag0 g1.length cg0, .slice Ag1 g2.length cg1], .int .i64 1] rfl (pY54) ?_; (refine (BkS.held (k := k) (q := q2) KG.out D16.1).mono ?_); rintro e_ W23 ⟨rfl, hb⟩; refine ⟨_, rfl, ?_⟩; have HB0 := am (show w.heap.size ≤ W22.heap.size from HB.1.size); have hk_ : Kept W22 W23 (fun _ => False) := Kept.noth hb; have LEW23 := am (show W22.heap.size ≤ W23.heap.size from hk_.1); replace KW := am (BkN.kept KW.out hk_ (fun _ _ _ h => h)); replace KX := am (BkS.kept KX.out hk_ (fun _ _ _ h => h)); replace KY := am (RwS.kept KY.out hk_ (fun _ _ _ h => h)); replace KG := am (BkS.kept KG.out hk_ (fun _ _ _ h => h)); replace BK3 := kB BK3 hk_; replace BK8 := kB BK8 hk_; replace BK10 := kB BK10 hk_; replace BK12 := kB BK12 hk_; replace HB := bS HB.1 hb; (try clear hb); (try clear hk_); (try clear hkk); (try clear hbb); (try clear hcz3_0 hcz3_1 hfz3_0 hfz3_1); obtain ⟨hcz3_0, hcz3_1, hfz3_0, hfz3_1⟩ := cz2 BK3; (try clear HB0)) | ((with_reducible refine gate_callee (f := 23) rfl ?_); refine goesL_ (some 103) rfl rfl Try.func23 (by kernel_rfl) rfl #[.agg #[.slice A0_0 l0.length c0_0, .slice A0_1 l1.length c0_1]] rfl (pY54) ?_; (refine (laws_toShareBook.calls k _ _ l0 _ _ l1 t3a t3b _ (Kd.C_below HR0_0.1 HB.1) HC0_0.1 (Kd.C_below HR0_1.1 HB.1) HC0_1.1 D17.1).mono ?_); rintro e_ W24 ⟨_, _, rfl, ho0, ho1, hb⟩; refine ⟨_, rfl, ?_⟩; have HB0 := am (show w.heap.size ≤ W23.heap.size from HB.1.size); have hk_ : Kept W23 W24 (fun _ => False) := Kept.noth hb; have LEW24 := am (show W23.heap.size ≤ W24.heap.size from hk_.1); replace KW := am (BkN.kept KW.out hk_ (fun _ _ _ h => h)); replace KX := am (BkS.kept KX.out hk_ (fun _ _ _ h => h)); replace KY := am (RwS.kept KY.out hk_ (fun _ _ _ h => h)); replace KG := am (BkS.kept KG.out hk_ (fun _ _ _ h => h)); replace BK3 := kB BK3 hk_; replace BK8 := kB BK8 hk_; replace BK10 := kB BK10 hk_; replace BK12 := kB BK12 hk_; replace HB := bS HB.1 hb; have KT := am (BkS.made (n := W23.heap.size) ho0 ho1 (HB0.out) (Nat.le_refl _)); clear ho0 ho1; obtain ⟨Ar0, cr0, Ar1, cr1, e0_, e1_⟩ := KT.out.slices; subst e0_; subst e1_; (try clear hb); (try clear hk_); (try clear hkk); (try clear hbb); (try clear hcz3_0 hcz3_1 hfz3_0 hfz3_1); obtain ⟨hcz3_0, hcz3_1, hfz3_0, hfz3_1⟩ := cz2 BK3; (try clear HB0)) | ((with_reducible refine gate_callee (f := 32) rfl ?_); refine goesL_ (some 106) rfl rfl Try.func32 (by kernel_rfl) rfl #[.slice A2 l2.length c2] rfl (pY54) ?_; (refine (laws_toStringS.calls k _ _ l2 u3 _ (Kd.C_below HR2.1 HB.1) HC2.1 D18.1).mono ?_); rintro e_ W25 ⟨_, rfl, ho0, hb⟩; refine ⟨_, rfl, ?_⟩; have HB0 := am (show w.heap.size ≤ W24.heap.size from HB.1.size); have hk_ : Kept W24 W25 (fun _ => False) := Kept.noth hb; have LEW25 := am (show W24.heap.size ≤ W25.heap.size from hk_.1); replace KW := am (BkN.kept KW.out hk_ (fun _ _ _ h => h)); replace KX := am (BkS.kept KX.out hk_ (fun _ _ _ h => h)); replace KY := am (RwS.kept KY.out hk_ (fun _ _ _ h => h)); replace KG := am (BkS.kept KG.out hk_ (fun _ _ _ h => h)); replace KT := am (BkS.kept KT.out hk_ (fun _ _ _ h => h)); replace BK3 := kB BK3 hk_; replace BK8 := kB BK8 hk_; replace BK10 := kB BK10 hk_; replace BK12 := kB BK12 hk_; replace HB := bS HB.1 hb; have KU := am (RwS.made (n := W24.heap.size) ho0 (HB0.out) (Nat.le_refl _)); clear ho0; obtain ⟨Ao0, co0, e0_⟩ := KU.out.slices; subst e0_; (try clear hb); (try clear hk_); (try clear hkk); (try clear hbb); (try clear hcz3_0 hcz3_1 hfz3_0 hfz3_1); obtain ⟨hcz3_0, hcz3_1, hfz3_0, hfz3_1⟩ := cz2 BK3; (try clear HB0)) | ((with_reducible refine gate_callee (f := 62) rfl ?_); refine goesL_ (some 107) rfl rfl Try.func62 (by kernel_rfl) rfl #[.agg #[.slice Ar0 t3a.length cr0, .slice Ar1 t3b.length cr1], .string a1, .slice Ao0 u3.length co0] rfl (pY54) ?_; (refine (impl_ShareAsk.calls k _ _ t3a _ _ t3b a1 _ _ u3 h1 h2 h3 _ (Kd.R_reads' (KT.out).1).2.2 (Kd.R_reads' (KT.out).1).2.1 (Kd.S_reads' (KT.out).2).2.2 (Kd.S_reads' (KT.out).2).2.1 (Kd.R_reads' (KU.out)).2.2 (Kd.R_reads' (KU.out)).2.1 D19.1).mono ?_); rintro e_ W26 ⟨_, _, rfl, ho0, ho1, hb⟩; refine ⟨_, rfl, ?_⟩; have HB0 := am (show w.heap.size ≤ W25.heap.size from HB.1.size); have hk_ : Kept W25 W26 (fun _ => False) := Kept.noth hb; have LEW26 := am (show W25.heap.size ≤ W26.heap.size from hk_.1); replace KW := am (BkN.kept KW.out hk_ (fun _ _ _ h => h)); replace KX := am (BkS.kept KX.out hk_ (fun _ _ _ h => h)); replace KY := am (RwS.kept KY.out hk_ (fun _ _ _ h => h)); replace KG := am (BkS.kept KG.out hk_ (fun _ _ _ h => h)); replace BK3 := kB BK3 hk_; replace BK8 := kB BK8 hk_; replace BK10 := kB BK10 hk_; replace BK12 := kB BK12 hk_; clear KT KU; replace HB := bS HB.1 hb; have KH := am (BkS.made (n := W25.heap.size) ho0 ho1 (HB0.out) (Nat.le_refl _)); clear ho0 ho1; obtain ⟨Ah0, ch0, Ah1, ch1, e0_, e1_⟩ := KH.out.slices; subst e0_; subst e1_; (try clear hb); (try clear hk_); (try clear hkk); (try clear hbb); (try clear HB0)) | (refine bX 17 #[.slice none 0 0, .slice none 0 0] 31 ?_; intro gb17 hg_ W27 hbox hb; have hk_ : Kept W26 W27 (fun _ => False) := Kept.noth hb; have LEW27 := am (show W26.heap.size ≤ W27.heap.size from hk_.1); have GE17 := am (show w.heap.size ≤ gb17 from Nat.le_trans HB.1.size (Nat.le_of_eq hg_.symm)); have GL17 := am (show W26.heap.size ≤ gb17 from Nat.le_of_eq hg_.symm); have GH17 := am (show gb17 < W27.heap.size from blk_lt hbox); replace KW := am (BkN.kept KW.out hk_ (fun _ _ _ h => h)); replace KX := am (BkS.kept KX.out hk_ (fun _ _ _ h => h)); replace KY := am (RwS.kept KY.out hk_ (fun _ _ _ h => h)); replace KG := am (BkS.kept KG.out hk_ (fun _ _ _ h => h)); replace KH := am (BkS.kept KH.out hk_ (fun _ _ _ h => h)); replace BK3 := kB BK3 hk_; replace BK8 := kB BK8 hk_; replace BK10 := kB BK10 hk_; replace BK12 := kB BK12 hk_; replace HB := bS HB.1 hb; have BK17 := am hbox; clear hb hbox hg_ hk_; have nb17_3 : gb17 ≠ gb3 := (by have := LEW1.1; have := GL3.1; have := GH3.1; have := LEW2.1; have := LEW3.1; have := LEW4.1; have := LEW5.1; have := LEW6.1; have := LEW7.1; have := GL8.1; have := GH8.1; have := LEW8.1; have := LEW9.1; have := GL10.1; have := GH10.1; have := LEW10.1; have := LEW11.1; have := LEW12.1; have := GL12.1; have := GH12.1; have := LEW13.1; have := LEW14.1; have := LEW15.1; have := LEW16.1; have := LEW17.1; have := LEW18.1; have := LEW19.1; have := LEW20.1; have := LEW21.1; have := LEW22.1; have := LEW23.1; have := LEW24.1; have := LEW25.1; have := LEW26.1; have := LEW27.1; have := GL17.1; have := GH17.1;  omega); have nb3_17 : gb3 ≠ gb17 := (by have := LEW1.1; have := GL3.1; have := GH3.1; have := LEW2.1; have := LEW3.1; have := LEW4.1; have := LEW5.1; have := LEW6.1; have := LEW7.1; have := GL8.1; have := GH8.1; have := LEW8.1; have := LEW9.1; have := GL10.1; have := GH10.1; have := LEW10.1; have := LEW11.1; have := LEW12.1; have := GL12.1; have := GH12.1; have := LEW13.1; have := LEW14.1; have := LEW15.1; have := LEW16.1; have := LEW17.1; have := LEW18.1; have := LEW19.1; have := LEW20.1; have := LEW21.1; have := LEW22.1; have := LEW23.1; have := LEW24.1; have := LEW25.1; have := LEW26.1; have := LEW27.1; have := GL17.1; have := GH17.1;  omega); have nb17_8 : gb17 ≠ gb8 := (by have := LEW1.1; have := GL3.1; have := GH3.1; have := LEW2.1; have := LEW3.1; have := LEW4.1; have := LEW5.1; have := LEW6.1; have := LEW7.1; have := GL8.1; have := GH8.1; have := LEW8.1; have := LEW9.1; have := GL10.1; have := GH10.1; have := LEW10.1; have := LEW11.1; have := LEW12.1; have := GL12.1; have := GH12.1; have := LEW13.1; have := LEW14.1; have := LEW15.1; have := LEW16.1; have := LEW17.1; have := LEW18.1; have := LEW19.1; have := LEW20.1; have := LEW21.1; have := LEW22.1; have := LEW23.1; have := LEW24.1; have := LEW25.1; have := LEW26.1; have := LEW27.1; have := GL17.1; have := GH17.1;  omega); have nb8_17 : gb8 ≠ gb17 := (by have := LEW1.1; have := GL3.1; have := GH3.1; have := LEW2.1; have := LEW3.1; have := LEW4.1; have := LEW5.1; have := LEW6.1; have := LEW7.1; have := GL8.1; have := GH8.1; have := LEW8.1; have := LEW9.1; have := GL10.1; have := GH10.1; have := LEW10.1; have := LEW11.1; have := LEW12.1; have := GL12.1; have := GH12.1; have := LEW13.1; have := LEW14.1; have := LEW15.1; have := LEW16.1; have := LEW17.1; have := LEW18.1; have := LEW19.1; have := LEW20.1; have := LEW21.1; have := LEW22.1; have := LEW23.1; have := LEW24.1; have := LEW25.1; have := LEW26.1; have := LEW27.1; have := GL17.1; have := GH17.1;  omega); have nb17_10 : gb17 ≠ gb10 := (by have := LEW1.1; have := GL3.1; have := GH3.1; have := LEW2.1; have := LEW3.1; have := LEW4.1; have := LEW5.1; have := LEW6.1; have := LEW7.1; have := GL8.1; have := GH8.1; have := LEW8.1; have := LEW9.1; have := GL10.1; have := GH10.1; have := LEW10.1; have := LEW11.1; have := LEW12.1; have := GL12.1; have := GH12.1; have := LEW13.1; have := LEW14.1; have := LEW15.1; have := LEW16.1; have := LEW17.1; have := LEW18.1; have := LEW19.1; have := LEW20.1; have := LEW21.1; have := LEW22.1; have := LEW23.1; have := LEW24.1; have := LEW25.1; have := LEW26.1; have := LEW27.1; have := GL17.1; have := GH17.1;  omega); have nb10_17 : gb10 ≠ gb17 := (by have := LEW1.1; have := GL3.1; have := GH3.1; have := LEW2.1; have := LEW3.1; have := LEW4.1; have := LEW5.1; have := LEW6.1; have := LEW7.1; have := GL8.1; have := GH8.1; have := LEW8.1; have := LEW9.1; have := GL10.1; have := GH10.1; have := LEW10.1; have := LEW11.1; have := LEW12.1; have := GL12.1; have := GH12.1; have := LEW13.1; have := LEW14.1; have := LEW15.1; have := LEW16.1; have := LEW17.1; have := LEW18.1; have := LEW19.1; have := LEW20.1; have := LEW21.1; have := LEW22.1; have := LEW23.1; have := LEW24.1; have := LEW25.1; have := LEW26.1; have := LEW27.1; have := GL17.1; have := GH17.1;  omega); have nb17_12 : gb17 ≠ gb12 := (by have := LEW1.1; have := GL3.1; have := GH3.1; have := LEW2.1; have := LEW3.1; have := LEW4.1; have := LEW5.1; have := LEW6.1; have := LEW7.1; have := GL8.1; have := GH8.1; have := LEW8.1; have := LEW9.1; have := GL10.1; have := GH10.1; have := LEW10.1; have := LEW11.1; have := LEW12.1; have := GL12.1; have := GH12.1; have := LEW13.1; have := LEW14.1; have := LEW15.1; have := LEW16.1; have := LEW17.1; have := LEW18.1; have := LEW19.1; have := LEW20.1; have := LEW21.1; have := LEW22.1; have := LEW23.1; have := LEW24.1; have := LEW25.1; have := LEW26.1; have := LEW27.1; have := GL17.1; have := GH17.1;  omega); have nb12_17 : gb12 ≠ gb17 := (by have := LEW1.1; have := GL3.1; have := GH3.1; have := LEW2.1; have := LEW3.1; have := LEW4.1; have := LEW5.1; have := LEW6.1; have := LEW7.1; have := GL8.1; have := GH8.1; have := LEW8.1; have := LEW9.1; have := GL10.1; have := GH10.1; have := LEW10.1; have := LEW11.1; have := LEW12.1; have := GL12.1; have := GH12.1; have := LEW13.1; have := LEW14.1; have := LEW15.1; have := LEW16.1; have := LEW17.1; have := LEW18.1; have := LEW19.1; have := LEW20.1; have := LEW21.1; have := LEW22.1; have := LEW23.1; have := LEW24.1; have := LEW25.1; have := LEW26.1; have := LEW27.1; have := GL17.1; have := GH17.1;  omega); (try clear hcz17_0 hcz17_1 hfz17_0 hfz17_1); obtain ⟨hcz17_0, hcz17_1, hfz17_0, hfz17_1⟩ := cz2 BK17; (try clear hcz8_0 hcz8_1 hfz8_0 hfz8_1); obtain ⟨hcz8_0, hcz8_1, hfz8_0, hfz8_1⟩ := cz2 BK8) | ((with_reducible refine gate_callee (f := 25) rfl ?_); refine goesL_ (some 112) rfl rfl Try.func25 (by kernel_rfl) rfl #[.agg #[.slice Ah0 h1.length ch0, .slice Ah1 h2.length ch1], .agg #[.slice Aw0 w1.length cw0, .slice Aw1 w2.length cw1]] rfl (pY54) ?_; (refine (BkS.eqN (k := k) (r := true) (BkS.kept KH.out (Kept.two (w := W27) (g := gb17) 0 1 (.slice Ah0 h1.length ch0) (.slice Ah1 h2.length ch1)) (fun k_ h1_ h2_ e_ => by have := LEW1.1; have := GL3.1; have := GH3.1; have := LEW2.1; have := LEW3.1; have := LEW4.1; have := LEW5.1; have := LEW6.1; have := LEW7.1; have := GL8.1; have := GH8.1; have := LEW8.1; have := LEW9.1; have := GL10.1; have := GH10.1; have := LEW10.1; have := LEW11.1; have := LEW12.1; have := GL12.1; have := GH12.1; have := LEW13.1; have := LEW14.1; have := LEW15.1; have := LEW16.1; have := LEW17.1; have := LEW18.1; have := LEW19.1; have := LEW20.1; have := LEW21.1; have := LEW22.1; have := LEW23.1; have := LEW24.1; have := LEW25.1; have := LEW26.1; have := LEW27.1; have := GL17.1; have := GH17.1;  omega)) (BkN.kept KW.out (Kept.two (w := W27) (g := gb17) 0 1 (.slice Ah0 h1.length ch0) (.slice Ah1 h2.length ch1)) (fun k_ h1_ h2_ e_ => by have := LEW1.1; have := GL3.1; have := GH3.1; have := LEW2.1; have := LEW3.1; have := LEW4.1; have := LEW5.1; have := LEW6.1; have := LEW7.1; have := GL8.1; have := GH8.1; have := LEW8.1; have := LEW9.1; have := GL10.1; have := GH10.1; have := LEW10.1; have := LEW11.1; have := LEW12.1; have := GL12.1; have := GH12.1; have := LEW13.1; have := LEW14.1; have := LEW15.1; have := LEW16.1; have := LEW17.1; have := LEW18.1; have := LEW19.1; have := LEW20.1; have := LEW21.1; have := LEW22.1; have := LEW23.1; have := LEW24.1; have := LEW25.1; have := LEW26.1; have := LEW27.1; have := GL17.1; have := GH17.1;  omega)) D20.1).mono ?_); rintro e_ W28 ⟨rfl, hb⟩; refine ⟨_, rfl, ?_⟩; have HB0 := am (show w.heap.size ≤ W27.heap.size from HB.1.size); have hk_ : Kept W27 W28 (fun k => k = gb17) := (Kept.two (w := W27) (g := gb17) 0 1 (.slice Ah0 h1.length ch0) (.slice Ah1 h2.length ch1)).below hb; have LEW28 := am (show W27.heap.size ≤ W28.heap.size from hk_.1); replace KW := am (BkN.kept KW.out hk_ (fun k_ h1_ h2_ e_ => by have := LEW1.1; have := GL3.1; have := GH3.1; have := LEW2.1; have := LEW3.1; have := LEW4.1; have := LEW5.1; have := LEW6.1; have := LEW7.1; have := GL8.1; have := GH8.1; have := LEW8.1; have := LEW9.1; have := GL10.1; have := GH10.1; have := LEW10.1; have := LEW11.1; have := LEW12.1; have := GL12.1; have := GH12.1; have := LEW13.1; have := LEW14.1; have := LEW15.1; have := LEW16.1; have := LEW17.1; have := LEW18.1; have := LEW19.1; have := LEW20.1; have := LEW21.1; have := LEW22.1; have := LEW23.1; have := LEW24.1; have := LEW25.1; have := LEW26.1; have := LEW27.1; have := GL17.1; have := GH17.1;  omega)); replace KX := am (BkS.kept KX.out hk_ (fun k_ h1_ h2_ e_ => by have := LEW1.1; have := GL3.1; have := GH3.1; have := LEW2.1; have := LEW3.1; have := LEW4.1; have := LEW5.1; have := LEW6.1; have := LEW7.1; have := GL8.1; have := GH8.1; have := LEW8.1; have := LEW9.1; have := GL10.1; have := GH10.1; have := LEW10.1; have := LEW11.1; have := LEW12.1; have := GL12.1; have := GH12.1; have := LEW13.1; have := LEW14.1; have := LEW15.1; have := LEW16.1; have := LEW17.1; have := LEW18.1; have := LEW19.1; have := LEW20.1; have := LEW21.1; have := LEW22.1; have := LEW23.1; have := LEW24.1; have := LEW25.1; have := LEW26.1; have := LEW27.1; have := GL17.1; have := GH17.1;  omega)); replace KY := am (RwS.kept KY.out hk_ (fun k_ h1_ h2_ e_ => by have := LEW1.1; have := GL3.1; have := GH3.1; have := LEW2.1; have := LEW3.1; have := LEW4.1; have := LEW5.1; have := LEW6.1; have := LEW7.1; have := GL8.1; have := GH8.1; have := LEW8.1; have := LEW9.1; have := GL10.1; have := GH10.1; have := LEW10.1; have := LEW11.1; have := LEW12.1; have := GL12.1; have := GH12.1; have := LEW13.1; have := LEW14.1; have := LEW15.1; have := LEW16.1; have := LEW17.1; have := LEW18.1; have := LEW19.1; have := LEW20.1; have := LEW21.1; have := LEW22.1; have := LEW23.1; have := LEW24.1; have := LEW25.1; have := LEW26.1; have := LEW27.1; have := GL17.1; have := GH17.1;  omega)); replace KG := am (BkS.kept KG.out hk_ (fun k_ h1_ h2_ e_ => by have := LEW1.1; have := GL3.1; have := GH3.1; have := LEW2.1; have := LEW3.1; have := LEW4.1; have := LEW5.1; have := LEW6.1; have := LEW7.1; have := GL8.1; have := GH8.1; have := LEW8.1; have := LEW9.1; have := GL10.1; have := GH10.1; have := LEW10.1; have := LEW11.1; have := LEW12.1; have := GL12.1; have := GH12.1; have := LEW13.1; have := LEW14.1; have := LEW15.1; have := LEW16.1; have := LEW17.1; have := LEW18.1; have := LEW19.1; have := LEW20.1; have := LEW21.1; have := LEW22.1; have := LEW23.1; have := LEW24.1; have := LEW25.1; have := LEW26.1; have := LEW27.1; have := GL17.1; have := GH17.1;  omega)); replace KH := am (BkS.kept KH.out hk_ (fun k_ h1_ h2_ e_ => by have := LEW1.1; have := GL3.1; have := GH3.1; have := LEW2.1; have := LEW3.1; have := LEW4.1; have := LEW5.1; have := LEW6.1; have := LEW7.1; have := GL8.1; have := GH8.1; have := LEW8.1; have := LEW9.1; have := GL10.1; have := GH10.1; have := LEW10.1; have := LEW11.1; have := LEW12.1; have := GL12.1; have := GH12.1; have := LEW13.1; have := LEW14.1; have := LEW15.1; have := LEW16.1; have := LEW17.1; have := LEW18.1; have := LEW19.1; have := LEW20.1; have := LEW21.1; have := LEW22.1; have := LEW23.1; have := LEW24.1; have := LEW25.1; have := LEW26.1; have := LEW27.1; have := GL17.1; have := GH17.1;  omega)); replace BK3 := am (blk_kept BK3.1 hk_ (fun e_ => by have := LEW1.1; have := GL3.1; have := GH3.1; have := LEW2.1; have := LEW3.1; have := LEW4.1; have := LEW5.1; have := LEW6.1; have := LEW7.1; have := GL8.1; have := GH8.1; have := LEW8.1; have := LEW9.1; have := GL10.1; have := GH10.1; have := LEW10.1; have := LEW11.1; have := LEW12.1; have := GL12.1; have := GH12.1; have := LEW13.1; have := LEW14.1; have := LEW15.1; have := LEW16.1; have := LEW17.1; have := LEW18.1; have := LEW19.1; have := LEW20.1; have := LEW21.1; have := LEW22.1; have := LEW23.1; have := LEW24.1; have := LEW25.1; have := LEW26.1; have := LEW27.1; have := GL17.1; have := GH17.1;  omega)); replace BK8 := am (blk_kept BK8.1 hk_ (fun e_ => by have := LEW1.1; have := GL3.1; have := GH3.1; have := LEW2.1; have := LEW3.1; have := LEW4.1; have := LEW5.1; have := LEW6.1; have := LEW7.1; have := GL8.1; have := GH8.1; have := LEW8.1; have := LEW9.1; have := GL10.1; have := GH10.1; have := LEW10.1; have := LEW11.1; have := LEW12.1; have := GL12.1; have := GH12.1; have := LEW13.1; have := LEW14.1; have := LEW15.1; have := LEW16.1; have := LEW17.1; have := LEW18.1; have := LEW19.1; have := LEW20.1; have := LEW21.1; have := LEW22.1; have := LEW23.1; have := LEW24.1; have := LEW25.1; have := LEW26.1; have := LEW27.1; have := GL17.1; have := GH17.1;  omega)); replace BK10 := am (blk_kept BK10.1 hk_ (fun e_ => by have := LEW1.1; have := GL3.1; have := GH3.1; have := LEW2.1; have := LEW3.1; have := LEW4.1; have := LEW5.1; have := LEW6.1; have := LEW7.1; have := GL8.1; have := GH8.1; have := LEW8.1; have := LEW9.1; have := GL10.1; have := GH10.1; have := LEW10.1; have := LEW11.1; have := LEW12.1; have := GL12.1; have := GH12.1; have := LEW13.1; have := LEW14.1; have := LEW15.1; have := LEW16.1; have := LEW17.1; have := LEW18.1; have := LEW19.1; have := LEW20.1; have := LEW21.1; have := LEW22.1; have := LEW23.1; have := LEW24.1; have := LEW25.1; have := LEW26.1; have := LEW27.1; have := GL17.1; have := GH17.1;  omega)); replace BK12 := am (blk_kept BK12.1 hk_ (fun e_ => by have := LEW1.1; have := GL3.1; have := GH3.1; have := LEW2.1; have := LEW3.1; have := LEW4.1; have := LEW5.1; have := LEW6.1; have := LEW7.1; have := GL8.1; have := GH8.1; have := LEW8.1; have := LEW9.1; have := GL10.1; have := GH10.1; have := LEW10.1; have := LEW11.1; have := LEW12.1; have := GL12.1; have := GH12.1; have := LEW13.1; have := LEW14.1; have := LEW15.1; have := LEW16.1; have := LEW17.1; have := LEW18.1; have := LEW19.1; have := LEW20.1; have := LEW21.1; have := LEW22.1; have := LEW23.1; have := LEW24.1; have := LEW25.1; have := LEW26.1; have := LEW27.1; have := GL17.1; have := GH17.1;  omega)); replace BK17 := am (blk_below (g := gb17) (o := .cells #[.slice Ah0 h1.length ch0, .slice Ah1 h2.length ch1] 31 (0, 0)) (blk_put (cs := #[.slice Ah0 h1.length ch0, .slice none 0 0]) (blk_put (cs := #[.slice none 0 0, .slice none 0 0]) BK17.1 0 _ rfl) 1 _ rfl) hb); replace HB := am (below_step (below_set (below_set HB.1 GE17.1) GE17.1) hb); (try clear hb); (try clear hk_); (try clear hkk); (try clear hbb); (try clear hcz12_0 hcz12_1 hfz12_0 hfz12_1); obtain ⟨hcz12_0, hcz12_1, hfz12_0, hfz12_1⟩ := cz2 BK12; (try clear HB0)) | ((with_reducible refine gate_callee (f := 48) rfl ?_); refine goesL_ (some 121) rfl rfl Try.func48 (by kernel_rfl) rfl #[.agg #[.slice Ag0 g1.length cg0, .slice Ag1 g2.length cg1], .int .i64 1] rfl (pY54) ?_; (refine (BkS.held (k := k) (q := q2) KG.out D21.1).mono ?_); rintro e_ W29 ⟨rfl, hb⟩; refine ⟨_, rfl, ?_⟩; have HB0 := am (show w.heap.size ≤ W28.heap.size from HB.1.size); have hk_ : Kept W28 W29 (fun _ => False) := Kept.noth hb; have LEW29 := am (show W28.heap.size ≤ W29.heap.size from hk_.1); replace KW := am (BkN.kept KW.out hk_ (fun _ _ _ h => h)); replace KX := am (BkS.kept KX.out hk_ (fun _ _ _ h => h)); replace KY := am (RwS.kept KY.out hk_ (fun _ _ _ h => h)); replace KG := am (BkS.kept KG.out hk_ (fun _ _ _ h => h)); replace KH := am (BkS.kept KH.out hk_ (fun _ _ _ h => h)); replace BK3 := kB BK3 hk_; replace BK8 := kB BK8 hk_; replace BK10 := kB BK10 hk_; replace BK12 := kB BK12 hk_; replace BK17 := kB BK17 hk_; replace HB := bS HB.1 hb; (try clear hb); (try clear hk_); (try clear hkk); (try clear hbb); (try clear HB0)))
 go_ret
 exact ⟨rfl, HB.1⟩
end Go.Proofs.Ytaofjgnhapnndaa.Q
namespace Go.Proofs.Ytaofjgnhapnndaa.Q
open Go.RowKit Go.Proofs.YtaofjgnhapnndaaW.PrintWords Go.Proofs.YtaofjgnhapnndaaW.PrintLast Go.Proofs.YtaofjgnhapnndaaW.PrintMore
set_option linter.unusedVariables false
set_option linter.unusedSimpArgs false
theorem wrap64_id (n : Int) (h : -9223372036854775808 ≤ n ∧ n ≤ 9223372036854775807) : wrap64 n = n := by unfold wrap64; omega
theorem markText_l0_ev : ∀ (n : Nat) (acc : ByteArray), acc.size + n + 2 ≤ 9223372036854775807 → ∃ t, Ev (fun k => laws_markText.l0 k (n : Int) acc) t := by
  intro n
  induction n using Nat.strongRecOn with
  | ind n ih =>
    intro acc hb
    by_cases h0 : n = 0
    · subst h0
      exact ⟨_, Ev.step (fun k => laws_markText.l0.eq_2 _ acc k) (Ev.neg (by decide) (Ev.pos (by omega) (Ev.ret rfl)))⟩
    · have hs : (strOfNums [(wrap64 (48 + (Int.tmod (n : Int) 10))) % 256]).size = 1 := rfl
      obtain ⟨t, ht⟩ := ih (n / 10) (by omega) (strOfNums [(wrap64 (48 + (Int.tmod (n : Int) 10))) % 256] ++ acc) (by rw [ByteArray.size_append, hs]; omega)
      refine ⟨t, Ev.step (fun k => laws_markText.l0.eq_2 _ acc k) (Ev.pos (by omega) (Ev.bind (Ev.ret rfl) (Ev.pos (by rw [hs]; omega) ?_)))⟩
      have e : wrap64 (Int.tdiv (n : Int) 10) = ((n / 10 : Nat) : Int) := by
        have : Int.tdiv (n : Int) 10 = ((n / 10 : Nat) : Int) := rfl
        rw [this]; exact wrap64_id _ (by omega)
      rw [e]
      exact ht
theorem markText_ev (a : Int) (h0 : 0 ≤ a) (h1 : a ≤ 4611686018427387904) : ∃ t, Ev (fun k => laws_markText.f k a) t := by
  unfold laws_markText.f
  by_cases h : a ≤ 0
  · exact ⟨_, Ev.pos h (Ev.ret rfl)⟩
  · obtain ⟨n, rfl⟩ := Int.eq_ofNat_of_zero_le h0
    obtain ⟨t, ht⟩ := markText_l0_ev n ⟨#[]⟩ (by show 0 + n + 2 ≤ _; omega)
    exact ⟨t, Ev.neg h ht⟩
open Classical in
noncomputable def markT (a : Int) : ByteArray := if h : 0 ≤ a ∧ a ≤ 4611686018427387904 then Classical.choose (markText_ev a h.1 h.2) else ⟨#[]⟩
theorem markT_ev {a : Int} (h0 : 0 ≤ a) (h1 : a ≤ 4611686018427387904) : Ev (fun k => laws_markText.f k a) (markT a) := by
  have e : markT a = Classical.choose (markText_ev a h0 h1) := dif_pos ⟨h0, h1⟩
  rw [e]
  exact Classical.choose_spec (markText_ev a h0 h1)
noncomputable def marksL (a : Int) (n : Nat) : List ByteArray := (List.range n).map fun (j : Nat) => markT (a + j)
theorem marksL_len (a : Int) (n : Nat) : (marksL a n).length = n := by simp [marksL]
theorem marksL_at (a : Int) {n i : Nat} (h : i < n) (z : ByteArray) : (marksL a n).getD i z = markT (a + i) := by
  unfold marksL
  rw [List.getD_eq_getElem?_getD, List.getElem?_map, List.getElem?_range h]
  rfl
theorem marksL_set (a : Int) (l : List ByteArray) {i : Nat} (h : i < l.length) : (marksL a i ++ l.drop i).set i (markT (a + i)) = marksL a (i + 1) ++ l.drop (i + 1) := by
  rw [List.set_append_right _ _ (by rw [marksL_len]; omega), marksL_len, Nat.sub_self, List.drop_eq_getElem_cons h, List.set_cons_zero]
  simp [marksL, List.range_succ]
theorem markStringS_ev (l : List ByteArray) (a : Int) (h0 : 0 ≤ a) (h1 : a + l.length ≤ 4611686018427387904) : Ev (fun k => laws_markStringS.f k l a) (a + l.length, marksL a l.length) := by
  have go : ∀ (d i : Nat), l.length - i = d → i ≤ l.length → Ev (fun k => laws_markStringS.l0 k (marksL a i ++ l.drop i) (a + i) (i : Int)) (a + l.length, marksL a l.length) := by
    intro d
    induction d with
    | zero =>
      intro i hd hi
      have e : i = l.length := by omega
      subst e
      refine Ev.step (fun k => laws_markStringS.l0.eq_2 _ _ _ k) (Ev.neg (by rw [List.length_append, marksL_len, List.length_drop]; omega) (Ev.ret ?_))
      rw [List.drop_length, List.append_nil]
    | succ d ih =>
      intro i hd hi
      refine Ev.step (fun k => laws_markStringS.l0.eq_2 _ _ _ k) (Ev.pos (by rw [List.length_append, marksL_len, List.length_drop]; omega) (Ev.bind (markT_ev (by omega) (by omega)) (Ev.pos (by omega) ?_)))
      rw [Int.toNat_natCast, marksL_set a l (by omega), wrap64_id (a + i + 1) (by omega), wrap64_id ((i : Int) + 1) (by omega)]
      have := ih (i + 1) (by omega) (by omega)
      rw [show a + ((i + 1 : Nat) : Int) = a + i + 1 by omega, show ((i + 1 : Nat) : Int) = (i : Int) + 1 by omega] at this
      exact this
  have := go l.length 0 (by omega) (by omega)
  simpa [marksL, laws_markStringS.f] using this
theorem heldStringS_ev (n : Nat) (a : Int) (h0 : 0 ≤ a) (h1 : a + n ≤ 4611686018427387904) : Ev (fun k => laws_heldStringS.f k (marksL a n) a) (a + n) := by
  have go : ∀ (d i : Nat), n - i = d → i ≤ n → Ev (fun k => laws_heldStringS.l0 k (marksL a n) (a + i) (i : Int)) (a + n) := by
    intro d
    induction d with
    | zero =>
      intro i hd hi
      have e : i = n := by omega
      subst e
      exact Ev.step (fun k => laws_heldStringS.l0.eq_2 _ _ _ k) (Ev.neg (by rw [marksL_len]; omega) (Ev.ret rfl))
    | succ d ih =>
      intro i hd hi
      refine Ev.step (fun k => laws_heldStringS.l0.eq_2 _ _ _ k) (Ev.pos (by rw [marksL_len]; omega) (Ev.pos (by omega) (Ev.bind (markT_ev (by omega) (by omega)) (Ev.pos ?_ ?_))))
      · show ((marksL a n).getD (i : Int).toNat _).toList = _
        rw [Int.toNat_natCast, marksL_at a (by omega)]
      · rw [wrap64_id (a + i + 1) (by omega), wrap64_id ((i : Int) + 1) (by omega)]
        have := ih (i + 1) (by omega) (by omega)
        rw [show a + ((i + 1 : Nat) : Int) = a + i + 1 by omega, show ((i + 1 : Nat) : Int) = (i : Int) + 1 by omega] at this
        exact this
  have := go n 0 (by omega) (by omega)
  simpa [laws_heldStringS.f] using this
end Go.Proofs.Ytaofjgnhapnndaa.Q
namespace Go.Proofs.Ytaofjgnhapnndaa.Q
open Go.RowKit Go.Proofs.YtaofjgnhapnndaaW.PrintWords Go.Proofs.YtaofjgnhapnndaaW.PrintLast Go.Proofs.YtaofjgnhapnndaaW.PrintMore
set_option linter.unusedVariables false
set_option linter.unusedSimpArgs false
def wMark (l : List IB) : Nat := (l.map fun b => 1 + b.f1.length + b.f2.length).sum
noncomputable def marksB : Int → List IB → Int × List IB
  | a, [] => (a, [])
  | a, b :: r => ((marksB (a + 1 + b.f1.length + b.f2.length) r).1, ⟨markT a, marksL (a + 1) b.f1.length, marksL (a + 1 + b.f1.length) b.f2.length⟩ :: (marksB (a + 1 + b.f1.length + b.f2.length) r).2)
theorem wMark_cons (b : IB) (r : List IB) : wMark (b :: r) = 1 + b.f1.length + b.f2.length + wMark r := by simp [wMark]
theorem rdT_mid (dn : List IB) (b : IB) (r : List IB) : rd_T56 (dn ++ b :: r) (dn.length : Int) = b := by
  unfold rd_T56
  rw [Int.toNat_natCast, List.getD_eq_getElem?_getD, List.getElem?_append_right (Nat.le_refl _), Nat.sub_self]
  rfl
theorem setT_mid (dn : List IB) (b x : IB) (r : List IB) : (dn ++ b :: r).set dn.length x = (dn ++ [x]) ++ r := by
  rw [List.set_append_right _ _ (Nat.le_refl _), Nat.sub_self]; simp
theorem markBatchS_ev : ∀ (rest dn : List IB) (a : Int), 0 ≤ a → a + wMark rest + dn.length + rest.length ≤ 4611686018427387904 → Ev (fun k => laws_markShareBatchS.l0 k (dn ++ rest) a (dn.length : Int)) ((marksB a rest).1, dn ++ (marksB a rest).2) := by
  intro rest
  induction rest with
  | nil =>
    intro dn a h0 h1
    exact Ev.step (fun k => laws_markShareBatchS.l0.eq_2 _ _ _ k) (Ev.neg (by simp) (Ev.ret rfl))
  | cons b r ih =>
    intro dn a h0 h1
    rw [wMark_cons, List.length_cons] at h1
    refine Ev.step (fun k => laws_markShareBatchS.l0.eq_2 _ _ _ k) (Ev.pos (by simp; omega) (Ev.pos (by omega) (Ev.bind (markT_ev h0 (by omega)) ?_)))
    rw [rdT_mid, wrap64_id (a + 1) (by omega), wrap64_id ((dn.length : Int) + 1) (by omega), Int.toNat_natCast]
    refine Ev.bind (markStringS_ev b.f1 (a + 1) (by omega) (by omega)) (Ev.bind (markStringS_ev b.f2 (a + 1 + b.f1.length) (by omega) (by omega)) ?_)
    dsimp only
    rw [setT_mid]
    have := ih (dn ++ [⟨markT a, marksL (a + 1) b.f1.length, marksL (a + 1 + b.f1.length) b.f2.length⟩]) (a + 1 + b.f1.length + b.f2.length) (by omega) (by simp only [List.length_append, List.length_singleton]; omega)
    rw [show ((dn ++ [(⟨markT a, marksL (a + 1) b.f1.length, marksL (a + 1 + b.f1.length) b.f2.length⟩ : IB)]).length : Int) = (dn.length : Int) + 1 by simp] at this
    exact Ev.sub this (by simp [marksB])
theorem heldBatchS_ev : ∀ (rest dn : List IB) (a : Int), 0 ≤ a → a + wMark rest + dn.length + rest.length ≤ 4611686018427387904 → Ev (fun k => laws_heldShareBatchS.l0 k (dn ++ (marksB a rest).2) a (dn.length : Int)) (marksB a rest).1 := by
  intro rest
  induction rest with
  | nil =>
    intro dn a h0 h1
    exact Ev.step (fun k => laws_heldShareBatchS.l0.eq_2 _ _ _ k) (Ev.neg (by simp [marksB]) (Ev.ret rfl))
  | cons b r ih =>
    intro dn a h0 h1
    rw [wMark_cons, List.length_cons] at h1
    simp only [marksB]
    refine Ev.step (fun k => laws_heldShareBatchS.l0.eq_2 _ _ _ k) (Ev.pos (by simp; omega) (Ev.pos (by omega) (Ev.bind (markT_ev h0 (by omega)) ?_)))
    rw [rdT_mid, wrap64_id (a + 1) (by omega), wrap64_id ((dn.length : Int) + 1) (by omega)]
    refine Ev.pos rfl (Ev.bind (heldStringS_ev b.f1.length (a + 1) (by omega) (by omega)) (Ev.neg (by omega) (Ev.bind (heldStringS_ev b.f2.length (a + 1 + b.f1.length) (by omega) (by omega)) (Ev.neg (by omega) ?_))))
    have := ih (dn ++ [⟨markT a, marksL (a + 1) b.f1.length, marksL (a + 1 + b.f1.length) b.f2.length⟩]) (a + 1 + b.f1.length + b.f2.length) (by omega) (by simp only [List.length_append, List.length_singleton]; omega)
    rw [show ((dn ++ [(⟨markT a, marksL (a + 1) b.f1.length, marksL (a + 1 + b.f1.length) b.f2.length⟩ : IB)]).length : Int) = (dn.length : Int) + 1 by simp, List.append_assoc, List.singleton_append] at this
    exact this
end Go.Proofs.Ytaofjgnhapnndaa.Q
namespace Go.Proofs.Ytaofjgnhapnndaa.Q
open Go.RowKit Go.Proofs.YtaofjgnhapnndaaW.PrintWords Go.Proofs.YtaofjgnhapnndaaW.PrintLast Go.Proofs.YtaofjgnhapnndaaW.PrintMore
set_option linter.unusedVariables false
set_option linter.unusedSimpArgs false
def atI (bs : List IB) (n : ByteArray) : Int := idxI (fun s => s.toList == n.toList) bs 0
theorem spec_l1At_ev (ts : List ByteArray) (bs : List IB) (n : ByteArray) (hl : bs.length ≤ 9223372036854775807) : Ev (fun k => spec_l1At.f k ts bs n) (atI bs n) := by
  unfold spec_l1At.f atI
  refine Ev.loop (f := fun k i => spec_l1At.l0 k n (i : Int) ts bs) (val := fun i => idxI (fun s => s.toList == n.toList) bs i) bs.length ?_ ?_ 0 (by omega)
  · simp only [idxI_end]
    exact Ev.step (fun k => spec_l1At.l0.eq_2 n _ ts bs k) (Ev.neg (by omega) (Ev.ret rfl))
  · intro i hi H
    simp only [idxI_step (fun s => s.toList == n.toList) hi]
    refine Ev.step (fun k => spec_l1At.l0.eq_2 n _ ts bs k) (Ev.pos (by omega) (Ev.pos (by omega) ?_))
    rw [rdB_cast, wrap_up hi hl]
    refine Ev.prop (fun h => Ev.ret (by rw [if_pos (beq_iff_eq.mpr h)])) (fun h => Ev.sub H (by rw [if_neg (fun e => h (beq_iff_eq.mp e))]))
end Go.Proofs.Ytaofjgnhapnndaa.Q
namespace Go.Proofs.Ytaofjgnhapnndaa.Q
open Go.RowKit Go.Proofs.YtaofjgnhapnndaaW.PrintWords Go.Proofs.YtaofjgnhapnndaaW.PrintLast Go.Proofs.YtaofjgnhapnndaaW.PrintMore
set_option linter.unusedVariables false
set_option linter.unusedSimpArgs false
theorem marksB_fst : ∀ (l : List IB) (a : Int), (marksB a l).1 = a + wMark l
  | [], a => by simp [marksB, wMark]
  | b :: r, a => by
    simp only [marksB, wMark_cons]
    rw [marksB_fst r]; omega
theorem wMark_le : ∀ (bs : List LB), wMark (bs.map toB) ≤ bs.length + sumL bs
  | [] => by simp [wMark]
  | b :: r => by
    have h := wMark_le r
    rw [List.map_cons, wMark_cons, List.length_cons, show sumL (b :: r) = wL b + sumL r by simp [sumL]]
    have : (toB b).f1.length + (toB b).f2.length ≤ wL b := by unfold wL wS toB; simp only; omega
    omega
theorem wBook_of {ts : List ByteArray} {bs : List LB} {a : Int} (ha : a = 1048576 - (wBook ts bs : Int)) (h0 : 0 ≤ a) : wBook ts bs ≤ 1048576 := by omega
end Go.Proofs.Ytaofjgnhapnndaa.Q
namespace Go.Proofs.Ytaofjgnhapnndaa.Q
open Go.RowKit Go.Proofs.YtaofjgnhapnndaaW.PrintWords Go.Proofs.YtaofjgnhapnndaaW.PrintLast Go.Proofs.YtaofjgnhapnndaaW.PrintMore
set_option linter.unusedVariables false
set_option linter.unusedSimpArgs false
theorem len_of_wS {l : List ByteArray} {n : Nat} (h : wS l ≤ n) : l.length ≤ n := by unfold wS at h; omega
theorem le_sum_map {α : Type} (f : α → Nat) : ∀ {l : List α} {x : α}, x ∈ l → f x ≤ (l.map f).sum
  | a :: l, x, h => by
    rw [List.map_cons, List.sum_cons]
    rcases List.mem_cons.1 h with rfl | h
    · omega
    · have := le_sum_map f h; omega
theorem size_of_wS {l : List ByteArray} {n : Nat} (h : wS l ≤ n) : ∀ s ∈ l, s.size ≤ n := fun s hs => by
  have := le_sum_map ByteArray.size hs
  unfold wS sumS at h
  omega
structure Sm (n : Nat) (ts : List ByteArray) (bs : List LB) : Prop where
  lt : ts.length ≤ n
  lb : bs.length ≤ n
  b1 : ∀ b ∈ bs, b.f1.length ≤ n
  b2 : ∀ b ∈ bs, b.f2.length ≤ n
  s0 : ∀ s ∈ ts, s.size ≤ n
  s1 : ∀ b ∈ bs, b.f0.size ≤ n
  s2 : ∀ b ∈ bs, ∀ s ∈ b.f1, s.size ≤ n
  s3 : ∀ b ∈ bs, ∀ s ∈ b.f2, s.size ≤ n
theorem Sm.of {n : Nat} {ts : List ByteArray} {bs : List LB} (h : wBook ts bs ≤ n) : Sm n ts bs := by
  have hw : ∀ b ∈ bs, wL b ≤ n := fun b hb => by
    have := le_sum_map wL hb
    unfold wBook sumL at h
    omega
  refine ⟨len_of_wS (by unfold wBook at h; omega), by unfold wBook at h; omega, fun b hb => ?_, fun b hb => ?_, size_of_wS (by unfold wBook at h; omega), fun b hb => ?_, fun b hb => ?_, fun b hb => ?_⟩
  · have := hw b hb; unfold wL at this; exact len_of_wS (by omega)
  · have := hw b hb; unfold wL at this; exact len_of_wS (by omega)
  · have := hw b hb; unfold wL at this; omega
  · have := hw b hb; unfold wL at this; exact size_of_wS (by omega)
  · have := hw b hb; unfold wL at this; exact size_of_wS (by omega)
theorem Sm.bok {n : Nat} {ts : List ByteArray} {bs : List LB} (h : Sm n ts bs) (hn : n ≤ 9223372036854775807) : Bok (bs.map toB) := fun b hb => by
  obtain ⟨c, hc, rfl⟩ := List.mem_map.1 hb
  exact ⟨Nat.le_trans (h.b1 c hc) hn, Nat.le_trans (h.b2 c hc) hn⟩
theorem counted {ts : List ByteArray} {bs : List LB} (hi : Inok ts bs) {f : Nat → Int → Option Bool}
    (h : ∀ a, a = 1048576 - (wBook ts bs : Int) → 0 ≤ a → Sm 1048576 ts bs → Ev (fun k => f k a) true) :
    Ev (fun k => (laws_szShareBook.f k ts bs 1048576).bind fun t => if t < 0 then some true else f k t) true := by
  refine Ev.bind (szShareBook_ev ts bs 1048576 hi (by omega) (by omega)) ?_
  refine Ev.prop (fun _ => Ev.ret rfl) (fun h2 => ?_)
  obtain ⟨h3, h4⟩ := left_pos h2
  exact h _ h4 (by omega) (Sm.of (by omega))
theorem Sm.to_ev {ts : List ByteArray} {bs : List LB} (h : Sm 1048576 ts bs) : Ev (fun k => laws_toShareBook.f k ts bs) (ts, bs.map toB) :=
  toShareBook_ev ts bs (by have := h.lt; omega) (by have := h.lb; omega) (fun b hb => ⟨by have := h.b1 b hb; omega, by have := h.b2 b hb; omega⟩)
theorem Sm.eq_ev {ts : List ByteArray} {bs : List LB} (h : Sm 1048576 ts bs) : Ev (fun k => laws_eqShareBook.f k ts (bs.map toB) ts (bs.map toB)) true :=
  eqShareBook_ev ts _ (by have := h.lt; omega) (by have := h.lb; simp; omega) (h.bok (by omega))
theorem countedS {l : List ByteArray} {a : Int} (hl : l.length ≤ 9223372036854775807 ∧ ∀ s ∈ l, s.size ≤ 9223372036854775807) (h0 : 0 ≤ a) (h1 : a ≤ 1048576) {f : Nat → Int → Option Bool}
    (h : ∀ a2, 0 ≤ a2 → l.length ≤ 1048576 → (∀ s ∈ l, s.size ≤ 1048576) → Ev (fun k => f k a2) true) :
    Ev (fun k => (laws_szStringS.f k l a).bind fun t => if t < 0 then some true else f k t) true := by
  refine Ev.bind (szStringS_ev l a hl.1 hl.2 h0 (by omega)) ?_
  refine Ev.prop (fun _ => Ev.ret rfl) (fun h2 => ?_)
  obtain ⟨h3, h4⟩ := left_pos h2
  have hw : wS l ≤ 1048576 := by omega
  exact h _ (by omega) (len_of_wS hw) (size_of_wS hw)
end Go.Proofs.Ytaofjgnhapnndaa.Q
namespace Go.Proofs.Ytaofjgnhapnndaa.Q
open Go.RowKit Go.Proofs.YtaofjgnhapnndaaW.PrintWords Go.Proofs.YtaofjgnhapnndaaW.PrintLast Go.Proofs.YtaofjgnhapnndaaW.PrintMore
set_option linter.unusedVariables false
set_option linter.unusedSimpArgs false
def Bz (ts : List ByteArray) (bs : List IB) : Prop := ts.length + wMark bs ≤ 8388608
theorem wMark_mem {bs : List IB} {b : IB} (h : b ∈ bs) : 1 + b.f1.length + b.f2.length ≤ wMark bs := by
  unfold wMark; exact le_sum_map (fun b => 1 + b.f1.length + b.f2.length) h
theorem wMark_len : ∀ bs : List IB, bs.length ≤ wMark bs
  | [] => by simp [wMark]
  | b :: r => by have := wMark_len r; rw [wMark_cons, List.length_cons]; omega
theorem wMark_append (a b : List IB) : wMark (a ++ b) = wMark a + wMark b := by simp [wMark]
theorem Bz.ts {ts : List ByteArray} {bs : List IB} (h : Bz ts bs) : ts.length ≤ 8388608 := by unfold Bz at h; omega
theorem Bz.bs {ts : List ByteArray} {bs : List IB} (h : Bz ts bs) : bs.length ≤ 8388608 := by have := wMark_len bs; unfold Bz at h; omega
theorem Bz.mem {ts : List ByteArray} {bs : List IB} (h : Bz ts bs) {b : IB} (hb : b ∈ bs) : b.f1.length ≤ 8388608 ∧ b.f2.length ≤ 8388608 := by have := wMark_mem hb; unfold Bz at h; omega
theorem Bz.bok {ts : List ByteArray} {bs : List IB} (h : Bz ts bs) : Bok bs := fun b hb => by have := h.mem hb; omega
theorem gB_mem {bs : List IB} {i : Nat} (h : i < bs.length) : gB bs i ∈ bs := by unfold gB; rw [getD_lt bs _ h]; exact List.getElem_mem h
theorem Bz.at_ {ts : List ByteArray} {bs : List IB} (h : Bz ts bs) {i : Nat} (hi : i < bs.length) : (gB bs i).f1.length ≤ 8388608 ∧ (gB bs i).f2.length ≤ 8388608 := h.mem (gB_mem hi)
theorem l1Names_ev (l : List ByteArray) (h : l.length ≤ 8388608) : Ev (fun _ => spec_l1Names.f l) l := by
  unfold spec_l1Names.f
  exact Ev.bind (Ev.ret rfl) (Ev.pos (by simp only [List.length_nil]; omega) (Ev.ret rfl))
theorem clone_ev (l : List ByteArray) (h : l.length ≤ 8388608) : Ev (fun _ => slices_Clone_string_string.f l) l := by
  unfold slices_Clone_string_string.f
  exact Ev.pos (by omega) (Ev.ret rfl)
theorem take_gB {bs : List IB} {i : Nat} (h : i < bs.length) : bs.take i ++ [gB bs i] = bs.take (i + 1) := by
  rw [List.take_succ_eq_append_getElem h]; unfold gB; rw [getD_lt bs _ h]
theorem spec_l1Copy_ev (ts : List ByteArray) (bs : List IB) (h : Bz ts bs) : Ev (fun k => spec_l1Copy.f k ts bs) (ts, bs) := by
  unfold spec_l1Copy.f
  have hl := h.bs
  have go : ∀ (d i : Nat), bs.length - i = d → i ≤ bs.length → Ev (fun k => spec_l1Copy.l0 k (i : Int) ts bs ts (bs.take i)) (ts, bs) := by
    intro d
    induction d with
    | zero =>
      intro i hd hi
      refine Ev.step (fun k => spec_l1Copy.l0.eq_2 _ _ _ _ _ k) (Ev.neg (by omega) (Ev.ret ?_))
      rw [List.take_of_length_le (by omega)]
    | succ d ih =>
      intro i hd hi
      have hlt : i < bs.length := by omega
      refine Ev.step (fun k => spec_l1Copy.l0.eq_2 _ _ _ _ _ k) (Ev.pos (by omega) (Ev.pos (by omega) ?_))
      rw [rdB_cast, wrap_up hlt (by omega)]
      refine Ev.bind (l1Names_ev _ (h.at_ hlt).1) (Ev.bind (l1Names_ev _ (h.at_ hlt).2) (Ev.pos (by rw [List.length_take]; omega) ?_))
      have := ih (i + 1) (by omega) (by omega)
      rw [← take_gB hlt] at this
      exact this
  exact Ev.bind (l1Names_ev ts h.ts) (go bs.length 0 (by omega) (by omega))
theorem impl_copyBook_ev (ts : List ByteArray) (bs : List IB) (h : Bz ts bs) : Ev (fun k => impl_copyBook.f k ts bs) (ts, bs) := by
  unfold impl_copyBook.f
  have hl := h.bs
  have go : ∀ (d i : Nat), bs.length - i = d → i ≤ bs.length → Ev (fun k => impl_copyBook.l0 k bs (bs.length : Int) (i : Int) ts (bs.take i)) (ts, bs) := by
    intro d
    induction d with
    | zero =>
      intro i hd hi
      refine Ev.step (fun k => impl_copyBook.l0.eq_2 _ _ _ _ _ k) (Ev.neg (by omega) (Ev.ret ?_))
      rw [List.take_of_length_le (by omega)]
    | succ d ih =>
      intro i hd hi
      have hlt : i < bs.length := by omega
      refine Ev.step (fun k => impl_copyBook.l0.eq_2 _ _ _ _ _ k) (Ev.pos (by omega) (Ev.pos (by omega) (Ev.pos (by omega) ?_)))
      rw [rdB_cast, wrap_up hlt (by omega)]
      refine Ev.bind (clone_ev _ (h.at_ hlt).1) (Ev.bind (clone_ev _ (h.at_ hlt).2) (Ev.pos (by rw [List.length_take]; omega) ?_))
      have := ih (i + 1) (by omega) (by omega)
      rw [← take_gB hlt] at this
      exact this
  exact Ev.bind (clone_ev ts h.ts) (go bs.length 0 (by omega) (by omega))
theorem markB_ev {ts : List ByteArray} {bs : List IB} (h : Bz ts bs) : Ev (fun k => laws_markShareBook.fB k ts bs 1) (1 + ts.length + wMark bs, marksL 1 ts.length, (marksB (1 + ts.length) bs).2) := by
  have h1 := h
  have h2 := wMark_len bs
  unfold Bz at h1
  unfold laws_markShareBook.fB laws_markShareBatchS.f
  have e := markBatchS_ev bs [] (1 + ts.length) (by omega) (by simp only [List.length_nil]; omega)
  refine Ev.bind (markStringS_ev ts 1 (by omega) (by omega)) (Ev.bind e (Ev.ret ?_))
  rw [marksB_fst]; rfl
theorem heldB_ev {ts : List ByteArray} {bs : List IB} (h : Bz ts bs) : Ev (fun k => laws_heldShareBook.f k (marksL 1 ts.length) (marksB (1 + ts.length) bs).2 1) (1 + ts.length + wMark bs) := by
  have h1 := h
  have h2 := wMark_len bs
  unfold Bz at h1
  unfold laws_heldShareBook.f laws_heldShareBatchS.f
  have e := heldBatchS_ev bs [] (1 + ts.length) (by omega) (by simp only [List.length_nil]; omega)
  rw [marksB_fst] at e
  exact Ev.bind (heldStringS_ev ts.length 1 (by omega) (by omega)) (Ev.neg (by omega) (Ev.bind e (Ev.neg (by omega) (Ev.ret rfl))))
theorem Bz.eq_ev {ts : List ByteArray} {bs : List IB} (h : Bz ts bs) : Ev (fun k => laws_eqShareBook.f k ts bs ts bs) true :=
  eqShareBook_ev ts bs (by have := h.ts; omega) (by have := h.bs; omega) (fun b hb => by have := h.mem hb; omega)
theorem Bz.of {ts : List ByteArray} {bs : List LB} (hw : wBook ts bs ≤ 1048576) : ts.length + wMark (bs.map toB) ≤ 1048576 := by
  have := wMark_le bs
  unfold wBook wS at hw; omega
theorem Bz.nil : Bz [] [] := by simp [Bz, wMark]
theorem ne_Bz {ts : List ByteArray} {bs : List IB} (h : ts.length + wMark bs ≤ 1048576) : Bz ts bs := by unfold Bz; omega
end Go.Proofs.Ytaofjgnhapnndaa.Q
namespace Go.Proofs.Ytaofjgnhapnndaa.Q
open Go.RowKit Go.Proofs.YtaofjgnhapnndaaW.PrintWords Go.Proofs.YtaofjgnhapnndaaW.PrintLast Go.Proofs.YtaofjgnhapnndaaW.PrintMore
set_option linter.unusedVariables false
set_option linter.unusedSimpArgs false
abbrev EC := ByteArray × (Option Addr × Nat × Nat) × (Option Addr × Nat × Nat)
structure EZ where
  c : EC
  x : S56
  o : Nat → Prop
def EZ.apart (a b : EZ) : Prop := ∀ k, a.o k → b.o k → False
end Go.Proofs.Ytaofjgnhapnndaa.Q
