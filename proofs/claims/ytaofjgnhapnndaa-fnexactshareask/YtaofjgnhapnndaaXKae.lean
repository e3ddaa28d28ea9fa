/- Texts that the row needs: words on memory and rows, the contracts of the functions it reaches, and the plain lemmas on what they compute. -/
import Derived.Test.YtaofjgnhapnndaaProg
import Derived.Below
import Derived.Deep.Draws
import Derived.Deep.AppendLies
import Derived.Maps.AppendAt
import Derived.OwnWalk
import Derived.Laws.BytesArg
import Derived.Laws.MakeOwn
import Derived.Laws.OwnMore
import Derived.Deep.OwnRows
import Derived.Tactics
import Derived.Lib.ConvBytes
import Derived.Laws.Slices
import Derived.WalkKit
import Derived.KernelRfl
import Derived.RowKit3
import Derived.Deep.LoopGhost
import Derived.Deep.QuietTactic
import Derived.BigQuiet
import Derived.WideLaws
import Derived.Deep.DeepCutAuto
import Derived.Deep.CutBlock
import Derived.Deep.RegionHeld3
import Derived.Laws.Rows
import Derived.Lib.AppendStr
import Derived.ArgAppend
import Derived.Laws.IdiomCopy
import Derived.OrdersHeld
import Derived.Laws.BitsLemmas
import Derived.RowKit
import Derived.WalkLawsBesides
import Derived.Laws.StructEq
import Derived.Test.YtaofjgnhapnndaaRows
import Derived.ProofKit
import Derived.Test.YtaofjgnhapnndaaXKaa
import Derived.Test.YtaofjgnhapnndaaXKab
import Derived.Test.YtaofjgnhapnndaaXKac
import Derived.Test.YtaofjgnhapnndaaXKad
open Go.Proofs.YtaofjgnhapnndaaFK
namespace Go.Proofs.Ytaofjgnhapnndaa.Q
open Go.RowKit Go.Proofs.YtaofjgnhapnndaaW.PrintWords Go.Proofs.YtaofjgnhapnndaaW.PrintLast Go.Proofs.YtaofjgnhapnndaaW.PrintMore
set_option linter.unusedVariables false
set_option linter.unusedSimpArgs false
theorem wordsSigns_word : ∀ (w r : List Char), (∀ c ∈ w, c ≠ Char.ofNat 32) → wordsSigns (w ++ Char.ofNat 32 :: r) = w :: wordsSigns r
  | [], r, _ => rfl
  | c :: w, r, h => by
    have ih := wordsSigns_word w r (fun d hd => h d (List.mem_cons_of_mem _ hd))
    have hc : c ≠ Char.ofNat 32 := h c List.mem_cons_self
    rw [List.cons_append, wordsSigns.eq_3 _ _ (fun e => hc e), ih]
theorem and_of {a b : Bool} (ha : a = true) (hb : b = true) : (a && b) = true := by rw [ha, hb]; rfl
noncomputable def orderSigns : List Char := List.map Char.ofNat [104, 97, 114, 110, 101, 115, 115, 32, 49, 97, 97, 102, 48, 49, 57, 50, 55, 56, 49, 54, 50, 51, 99, 56, 99, 53, 100, 102, 97, 53, 55, 48, 102, 97, 55, 55, 101, 56, 54, 50, 99, 52, 54, 54, 101, 56, 50, 100, 51, 52, 51, 49, 98, 99, 97, 97, 50, 56, 55, 52, 54, 55, 53, 101, 54, 101, 51, 56, 53, 55, 99, 50, 32, 99, 117, 116, 32, 97, 116, 32, 108, 111, 111, 112, 46, 101, 120, 97, 109, 112, 108, 101, 47, 109, 97, 108, 116, 115, 104, 97, 114, 101, 47, 108, 97, 119, 115, 46, 70, 110, 69, 120, 97, 99, 116, 67, 111, 110, 115, 116, 97, 110, 116, 115, 32, 108, 111, 111, 112, 46, 101, 120, 97, 109, 112, 108, 101, 47, 109, 97, 108, 116, 115, 104, 97, 114, 101, 47, 108, 97, 119, 115, 46, 70, 110, 69, 120, 97, 99, 116, 83, 104, 97, 114, 101, 66, 111, 111, 107, 79, 107, 32, 108, 111, 111, 112, 46, 101, 120, 97, 109, 112, 108, 101, 47, 109, 97, 108, 116, 115, 104, 97, 114, 101, 47, 108, 97, 119, 115, 46, 70, 110, 69, 120, 97, 99, 116, 83, 104, 97, 114, 101, 87, 104, 111, 32, 108, 111, 111, 112, 46, 101, 120, 97, 109, 112, 108, 101, 47, 109, 97, 108, 116, 115, 104, 97, 114, 101, 47, 108, 97, 119, 115, 46, 70, 110, 69, 120, 97, 99, 116, 83, 104, 97, 114, 101, 83, 116, 117, 99, 107, 32, 108, 111, 111, 112, 46, 101, 120, 97, 109, 112, 108, 101, 47, 109, 97, 108, 116, 115, 104, 97, 114, 101, 47, 108, 97, 119, 115, 46, 70, 110, 69, 120, 97, 99, 116, 83, 104, 97, 114, 101, 70, 105, 116, 115, 32, 108, 111, 111, 112, 46, 101, 120, 97, 109, 112, 108, 101, 47, 109, 97, 108, 116, 115, 104, 97, 114, 101, 47, 108, 97, 119, 115, 46, 70, 110, 69, 120, 97, 99, 116, 83, 104, 97, 114, 101, 83, 97, 102, 101, 32, 108, 111, 111, 112, 46, 101, 120, 97, 109, 112, 108, 101, 47, 109, 97, 108, 116, 115, 104, 97, 114, 101, 47, 108, 97, 119, 115, 46, 70, 110, 69, 120, 97, 99, 116, 83, 104, 97, 114, 101, 87, 97, 105, 116, 115, 32, 108, 111, 111, 112, 46, 101, 120, 97, 109, 112, 108, 101, 47, 109, 97, 108, 116, 115, 104, 97, 114, 101, 47, 108, 97, 119, 115, 46, 70, 110, 69, 120, 97, 99, 116, 83, 104, 97, 114, 101, 77, 111, 118, 101, 115, 32, 108, 111, 111, 112, 46, 101, 120, 97, 109, 112, 108, 101, 47, 109, 97, 108, 116, 115, 104, 97, 114, 101, 47, 108, 97, 119, 115, 46, 70, 110, 69, 120, 97, 99, 116, 83, 104, 97, 114, 101, 79, 114, 100, 101, 114, 32, 108, 111, 111, 112, 46, 101, 120, 97, 109, 112, 108, 101, 47, 109, 97, 108, 116, 115, 104, 97, 114, 101, 47, 108, 97, 119, 115, 46, 70, 110, 69, 120, 97, 99, 116, 83, 104, 97, 114, 101, 76, 101, 97, 118, 101, 32, 108, 111, 111, 112, 46, 101, 120, 97, 109, 112, 108, 101, 47, 109, 97, 108, 116, 115, 104, 97, 114, 101, 47, 108, 97, 119, 115, 46, 70, 110, 69, 120, 97, 99, 116, 83, 104, 97, 114, 101, 76, 101, 115, 115, 32, 108, 111, 111, 112, 46, 101, 120, 97, 109, 112, 108, 101, 47, 109, 97, 108, 116, 115, 104, 97, 114, 101, 47, 108, 97, 119, 115, 46, 70, 110, 87, 104, 111, 32, 108, 111, 111, 112, 46, 101, 120, 97, 109, 112, 108, 101, 47, 109, 97, 108, 116, 115, 104, 97, 114, 101, 47, 108, 97, 119, 115, 46, 70, 110, 79, 114, 100, 101, 114, 32, 108, 111, 111, 112, 46, 101, 120, 97, 109, 112, 108, 101, 47, 109, 97, 108, 116, 115, 104, 97, 114, 101, 47, 108, 97, 119, 115, 46, 70, 110, 77, 111, 118, 101, 115, 32, 108, 111, 111, 112, 46, 101, 120, 97, 109, 112, 108, 101, 47, 109, 97, 108, 116, 115, 104, 97, 114, 101, 47, 108, 97, 119, 115, 46, 70, 110, 69, 120, 97, 99, 116, 83, 104, 97, 114, 101, 69, 110, 116, 101, 114, 32, 108, 111, 111, 112, 46, 101, 120, 97, 109, 112, 108, 101, 47, 109, 97, 108, 116, 115, 104, 97, 114, 101, 47, 108, 97, 119, 115, 46, 70, 110, 69, 120, 97, 99, 116, 83, 104, 97, 114, 101, 65, 115, 107, 32, 108, 111, 111, 112, 46, 101, 120, 97, 109, 112, 108, 101, 47, 109, 97, 108, 116, 115, 104, 97, 114, 101, 47, 108, 97, 119, 115, 46, 70, 110, 65, 115, 107, 32, 108, 111, 111, 112, 46, 101, 120, 97, 109, 112, 108, 101, 47, 109, 97, 108, 116, 115, 104, 97, 114, 101, 47, 108, 97, 119, 115, 46, 70, 110, 76, 101, 115, 115]
theorem order_eq : Try.prog.initOrder = String.ofList orderSigns := by kernel_rfl
theorem order_list : Try.prog.initOrder.toList = orderSigns := (congrArg String.toList order_eq).trans String.toList_ofList
noncomputable def headWord : List Char := (orderSigns.drop 8).take 64
theorem head_eq : orderSigns = "harness".toList ++ Char.ofNat 32 :: (headWord ++ Char.ofNat 32 :: ("cut".toList ++ Char.ofNat 32 :: orderSigns.drop 77)) := by kernel_rfl
theorem headWord_all : (headWord.all fun c => c != Char.ofNat 32) = true := by kernel_rfl
theorem headWord_sum : isSumSigns headWord = true := by kernel_rfl
theorem main_word : ∃ R, behindMainWord (wordsSigns Try.prog.initOrder.toList) = "cut".toList :: R := by
  refine ⟨wordsSigns (orderSigns.drop 77), ?_⟩
  have h1 : ∀ c ∈ "harness".toList, c ≠ Char.ofNat 32 := by decide
  have h3 : ∀ c ∈ "cut".toList, c ≠ Char.ofNat 32 := by decide
  have h2 : ∀ c ∈ headWord, c ≠ Char.ofNat 32 := fun c hc => by
    have := List.all_eq_true.1 headWord_all c hc
    simpa using this
  have e : wordsSigns Try.prog.initOrder.toList = "harness".toList :: headWord :: "cut".toList :: wordsSigns (orderSigns.drop 77) :=
    (congrArg wordsSigns (order_list.trans head_eq)).trans (by rw [wordsSigns_word _ _ h1, wordsSigns_word _ _ h2, wordsSigns_word _ _ h3])
  rw [e]
  generalize wordsSigns (orderSigns.drop 77) = R
  unfold behindMainWord
  exact if_pos (by rw [headWord_sum, beq_self_eq_true]; rfl)
theorem l_cut : "cut".toList = [Char.ofNat 99, Char.ofNat 117, Char.ofNat 116] := (String.toList_ofList : (String.ofList [Char.ofNat 99, Char.ofNat 117, Char.ofNat 116]).toList = _)
theorem l_gc : "gc".toList = [Char.ofNat 103, Char.ofNat 99] := (String.toList_ofList : (String.ofList [Char.ofNat 103, Char.ofNat 99]).toList = _)
theorem l_spec : "spec".toList = [Char.ofNat 115, Char.ofNat 112, Char.ofNat 101, Char.ofNat 99] := (String.toList_ofList : (String.ofList [Char.ofNat 115, Char.ofNat 112, Char.ofNat 101, Char.ofNat 99]).toList = _)
theorem l_carried : "carried".toList = [Char.ofNat 99, Char.ofNat 97, Char.ofNat 114, Char.ofNat 114, Char.ofNat 105, Char.ofNat 101, Char.ofNat 100] := (String.toList_ofList : (String.ofList [Char.ofNat 99, Char.ofNat 97, Char.ofNat 114, Char.ofNat 114, Char.ofNat 105, Char.ofNat 101, Char.ofNat 100]).toList = _)
theorem n_gc : ("cut".toList == "gc".toList) = false := by rw [l_cut, l_gc]; decide
theorem n_spec : ("cut".toList == "spec".toList) = false := by rw [l_cut, l_spec]; decide
theorem n_carried : ("cut".toList == "carried".toList) = false := by rw [l_cut, l_carried]; decide
theorem y_cut : ("cut".toList == "cut".toList) = true := beq_self_eq_true _
theorem n_carried' (R : List (List Char)) : (("cut".toList :: R).head? == some "carried".toList) = false := by
  rw [List.head?_cons, l_cut, l_carried]; decide
theorem y_cut' (R : List (List Char)) : (("cut".toList :: R).head? == some "cut".toList) = true := by rw [List.head?_cons]; exact beq_self_eq_true _
theorem strip_cut (R : List (List Char)) : stripLifts liftWords ("cut".toList :: R) = ([], "cut".toList :: R) := by rfl
theorem laysLater_no : Try.prog.laysLater = false := by kernel_rfl
theorem bearsReflect_no : Try.prog.bearsReflect = false := by kernel_rfl
theorem doorFits_nil : Try.prog.doorFits [] = true := by kernel_rfl
theorem mayEnter_of (P : Program) (R : List (List Char)) (h : behindMainWord (wordsSigns P.initOrder.toList) = "cut".toList :: R) (h1 : P.laysLater = false) (h2 : P.bearsReflect = false) (h3 : P.doorFits [] = true) : P.mayEnter = true := by
  unfold Program.mayEnter
  rw [h]
  simp only [strip_cut, h1, h2, h3, n_gc, n_spec, n_carried, y_cut']
  rfl
theorem headLifts_of (P : Program) (R : List (List Char)) (h : behindMainWord (wordsSigns P.initOrder.toList) = "cut".toList :: R) : P.headLifts = [] := by
  unfold Program.headLifts
  rw [h, strip_cut]
  exact ite_self _
theorem liftsFinal_of (P : Program) (R : List (List Char)) (h : behindMainWord (wordsSigns P.initOrder.toList) = "cut".toList :: R) : P.liftsFinal = false := by
  unfold Program.liftsFinal
  rw [headLifts_of P R h, h]
  simp only [n_carried']
  rfl
theorem make_of (P : Program) (R : List (List Char)) (h : behindMainWord (wordsSigns P.initOrder.toList) = "cut".toList :: R) : P.make = some .cut := by
  unfold Program.make
  rw [h]
  simp only [n_gc, n_spec, y_cut]
  rfl
theorem mayEnter_yes : Try.prog.mayEnter = true := by
  obtain ⟨R, h⟩ := main_word
  exact mayEnter_of _ R h laysLater_no bearsReflect_no doorFits_nil
theorem liftsFinal_no : Try.prog.liftsFinal = false := by
  obtain ⟨R, h⟩ := main_word
  exact liftsFinal_of _ R h
theorem make_cut : Try.prog.make = some .cut := by
  obtain ⟨R, h⟩ := main_word
  exact make_of _ R h
end Go.Proofs.Ytaofjgnhapnndaa.Q
namespace Go.Proofs.Ytaofjgnhapnndaa.Q
open Go.RowKit Go.Proofs.YtaofjgnhapnndaaW.PrintWords Go.Proofs.YtaofjgnhapnndaaW.PrintLast Go.Proofs.YtaofjgnhapnndaaW.PrintMore
set_option linter.unusedVariables false
set_option linter.unusedSimpArgs false
def laws_eqStringS.l0 : Nat → List ByteArray → List ByteArray → Int → Option (Bool)
 | 0, _, _, _ => none
 | k + 1, x0, x1, x5 => if x5 < (x0.length : Int) then (if 0 ≤ x5 then (if x5 < (x1.length : Int) then (if (rdOf ByteArray.empty x0 x5).toList = (rdOf ByteArray.empty x1 x5).toList then (laws_eqStringS.l0 k x0 x1 (wrap64 (x5 + 1))) else (some false)) else (none)) else (none)) else (some true)
def laws_eqStringS.f (k : Nat) (l0 : List ByteArray) (l1 : List ByteArray) : Option (Bool) := if (l0.length : Int) = (l1.length : Int) then (laws_eqStringS.l0 k l0 l1 0) else (some false)
set_option maxHeartbeats 8000000 in
set_option maxRecDepth 100000 in
theorem laws_eqStringS.calls (k : Nat) (A0 : Option Addr) (c0 : Nat) (l0 : List ByteArray) (A1 : Option Addr) (c1 : Nat) (l1 : List ByteArray) (r : Bool) (w : World) (hr0 : Kd.C Kd.string w A0 l0.length l0) (hc0 : l0.length ≤ c0) (hr1 : Kd.C Kd.string w A1 l1.length l1) (hc1 : l1.length ≤ c1) (h : laws_eqStringS.f k l0 l1 = some r) :
  Calls Try.prog 34 #[.slice A0 l0.length c0, .slice A1 l1.length c1] w fun e w' => e = .returned (.bool r) ∧ Drawn0 w w' := by
 have HR0 := am hr0
 have HC0 := am hc0
 clear hr0 hc0
 have HR1 := am hr1
 have HC1 := am hc1
 clear hr1 hc1
 have H : (if (l0.length : Int) = (l1.length : Int) then (laws_eqStringS.l0 k l0 l1 0) else (some false)) = some r := h
 clear h
 by_cases c3 : (l0.length : Int) = (l1.length : Int)
 ·rw [if_pos c3] at H
  have c3b0 : ((l0.length : Int) == (l1.length : Int)) = true := beq_iff_eq.mpr c3
  have c3b1 : ((l0.length : Int) != (l1.length : Int)) = false := bne_eq_false_iff_eq.mpr c3
  have c3b2 : (l0.length == l1.length) = true := by first | simpa using c3 | (simp at c3 ⊢; omega)
  clear c3
  have H' := am H
  clear H
  go_enter Try.func34, Try.ntmps34
  go_wp2
  repeat (go_quiet (fail); try go_wp2)
  go_loopg [5] k (fun kq v5 w' => ∃ (x5_1 : Int), v5 = .int .i64 x5_1 ∧ Aside0 (laws_eqStringS.l0 kq l0 l1 x5_1 = some r) ∧ Aside0 (kq ≤ k) ∧ Drawn0 w w')
  case atStart => exact ⟨(0), (pY83), H', ⟨Nat.le_refl _⟩, pY80⟩
  case round =>
   clear H'
   try clear c1
   try clear c3
   try clear c3b0
   try clear c3b1
   try clear c3b2
   obtain ⟨x5_1, rfl, HA, HK1, ⟨m1, rfl⟩⟩ := hrel
   cases gk with
   | zero => exact absurd HA.out (by simp [laws_eqStringS.l0])
   | succ k1 =>
    have H := HA.out
    clear HA
    simp only [laws_eqStringS.l0] at H
    by_cases c4 : x5_1 < (l0.length : Int)
    ·rw [if_pos c4] at H
     have c4b0 : decide (x5_1 < (l0.length : Int)) = true := decide_eq_true c4
     clear c4
     by_cases c5 : 0 ≤ x5_1
     ·rw [if_pos c5] at H
      have c5b0 : decide (0 ≤ x5_1) = true := decide_eq_true c5
      clear c5
      by_cases c6 : x5_1 < (l1.length : Int)
      ·rw [if_pos c6] at H
       have c6b0 : decide (x5_1 < (l1.length : Int)) = true := decide_eq_true c6
       clear c6
       by_cases c7 : (rdOf ByteArray.empty l0 x5_1).toList = (rdOf ByteArray.empty l1 x5_1).toList
       ·rw [if_pos c7] at H
        have c7b0 : ((rdOf ByteArray.empty l0 x5_1).toList == (rdOf ByteArray.empty l1 x5_1).toList) = true := beq_iff_eq.mpr c7
        have c7b1 : ((rdOf ByteArray.empty l0 x5_1).toList != (rdOf ByteArray.empty l1 x5_1).toList) = false := bne_eq_false_iff_eq.mpr c7
        clear c7
        have H' := am H
        clear H
        have p101 : 0 ≤ (x5_1 : Int) := of_decide_eq_true (pY82)
        have q101 : x5_1 < (l0.length : Int) := of_decide_eq_true (pY82)
        obtain ⟨ad101, e101, hx101_0⟩ := Kd.at_string HR0.1 x5_1 p101 q101
        cases e101
        replace p101 := eq_true p101
        replace q101 := eq_true q101
        have p102 : 0 ≤ (x5_1 : Int) := of_decide_eq_true (pY82)
        have q102 : x5_1 < (l1.length : Int) := of_decide_eq_true (pY82)
        obtain ⟨ad102, e102, hx102_0⟩ := Kd.at_string HR1.1 x5_1 p102 q102
        cases e102
        replace p102 := eq_true p102
        replace q102 := eq_true q102
        go_wp2
        repeat (go_quiet (fail); try go_wp2)
        go_roundg k1
        case measure => have := HK1.out; omega
        case rel => exact ⟨(wrap64 (x5_1 + 1)), (pY83), H', ⟨by have := HK1.out; omega⟩, pY80⟩
       ·rw [if_neg c7] at H
        have c7b0 : ((rdOf ByteArray.empty l0 x5_1).toList == (rdOf ByteArray.empty l1 x5_1).toList) = false := beq_eq_false_iff_ne.mpr c7
        have c7b1 : ((rdOf ByteArray.empty l0 x5_1).toList != (rdOf ByteArray.empty l1 x5_1).toList) = true := bne_iff_ne.mpr c7
        obtain rfl := Option.some.inj H
        have p101 : 0 ≤ (x5_1 : Int) := of_decide_eq_true (pY82)
        have q101 : x5_1 < (l0.length : Int) := of_decide_eq_true (pY82)
        obtain ⟨ad101, e101, hx101_0⟩ := Kd.at_string HR0.1 x5_1 p101 q101
        cases e101
        replace p101 := eq_true p101
        replace q101 := eq_true q101
        have p102 : 0 ≤ (x5_1 : Int) := of_decide_eq_true (pY82)
        have q102 : x5_1 < (l1.length : Int) := of_decide_eq_true (pY82)
        obtain ⟨ad102, e102, hx102_0⟩ := Kd.at_string HR1.1 x5_1 p102 q102
        cases e102
        replace p102 := eq_true p102
        replace q102 := eq_true q102
        go_wp2
        repeat (go_quiet (fail); try go_wp2)
        go_ret
        exact ⟨by first | rfl | (simp; done) | (simp [*]; done), pY80⟩
      ·rw [if_neg c6] at H
       exact absurd H (by simp)
     ·rw [if_neg c5] at H
      exact absurd H (by simp)
    ·rw [if_neg c4] at H
     have c4b0 : decide (x5_1 < (l0.length : Int)) = false := decide_eq_false c4
     clear c4
     obtain rfl := Option.some.inj H
     go_wp2
     repeat (go_quiet (fail); try go_wp2)
     go_ret
     exact ⟨by first | rfl | (simp; done) | (simp [*]; done), pY80⟩
 ·rw [if_neg c3] at H
  have c3b0 : ((l0.length : Int) == (l1.length : Int)) = false := beq_eq_false_iff_ne.mpr c3
  have c3b1 : ((l0.length : Int) != (l1.length : Int)) = true := bne_iff_ne.mpr c3
  have c3b2 : (l0.length == l1.length) = false := by first | simpa using c3 | (simp at c3 ⊢; omega)
  obtain rfl := Option.some.inj H
  go_enter Try.func34, Try.ntmps34
  go_wp2
  repeat (go_quiet (fail); try go_wp2)
  go_ret
  exact ⟨by first | rfl | (simp; done) | (simp [*]; done), pY80⟩
end Go.Proofs.Ytaofjgnhapnndaa.Q
namespace Go.Proofs.Ytaofjgnhapnndaa.Q
open Go.RowKit Go.Proofs.YtaofjgnhapnndaaW.PrintWords Go.Proofs.YtaofjgnhapnndaaW.PrintLast Go.Proofs.YtaofjgnhapnndaaW.PrintMore
set_option linter.unusedVariables false
set_option linter.unusedSimpArgs false
def laws_eqShareBatch.f (k : Nat) (a0_0 : ByteArray) (l0_1 : List ByteArray) (l0_2 : List ByteArray) (a1_0 : ByteArray) (l1_1 : List ByteArray) (l1_2 : List ByteArray) : Option (Bool) := if a0_0.toList = a1_0.toList then ((laws_eqStringS.f k l0_1 l1_1).bind fun t103 => (if t103 = true then ((laws_eqStringS.f k l0_2 l1_2).bind fun t104 => (if t104 = true then (some true) else (some false))) else (some false))) else (some false)
set_option maxHeartbeats 8000000 in
set_option maxRecDepth 100000 in
theorem laws_eqShareBatch.calls (k : Nat) (a0_0 : ByteArray) (A0_1 : Option Addr) (c0_1 : Nat) (l0_1 : List ByteArray) (A0_2 : Option Addr) (c0_2 : Nat) (l0_2 : List ByteArray) (a1_0 : ByteArray) (A1_1 : Option Addr) (c1_1 : Nat) (l1_1 : List ByteArray) (A1_2 : Option Addr) (c1_2 : Nat) (l1_2 : List ByteArray) (r : Bool) (w : World) (hr0_1 : Kd.C Kd.string w A0_1 l0_1.length l0_1) (hc0_1 : l0_1.length ≤ c0_1) (hr0_2 : Kd.C Kd.string w A0_2 l0_2.length l0_2) (hc0_2 : l0_2.length ≤ c0_2) (hr1_1 : Kd.C Kd.string w A1_1 l1_1.length l1_1) (hc1_1 : l1_1.length ≤ c1_1) (hr1_2 : Kd.C Kd.string w A1_2 l1_2.length l1_2) (hc1_2 : l1_2.length ≤ c1_2) (h : laws_eqShareBatch.f k a0_0 l0_1 l0_2 a1_0 l1_1 l1_2 = some r) :
  Calls Try.prog 115 #[.agg #[.string a0_0, .slice A0_1 l0_1.length c0_1, .slice A0_2 l0_2.length c0_2], .agg #[.string a1_0, .slice A1_1 l1_1.length c1_1, .slice A1_2 l1_2.length c1_2]] w fun e w' => e = .returned (.bool r) ∧ Below w.heap.size w w' := by
 have hu56 := Try.underlying56
 have HR0_1 := am hr0_1
 have HC0_1 := am hc0_1
 clear hr0_1 hc0_1
 have HR0_2 := am hr0_2
 have HC0_2 := am hc0_2
 clear hr0_2 hc0_2
 have HR1_1 := am hr1_1
 have HC1_1 := am hc1_1
 clear hr1_1 hc1_1
 have HR1_2 := am hr1_2
 have HC1_2 := am hc1_2
 clear hr1_2 hc1_2
 have HB := am (Below.refl w.heap.size w)
 have H : (if a0_0.toList = a1_0.toList then ((laws_eqStringS.f k l0_1 l1_1).bind fun t103 => (if t103 = true then ((laws_eqStringS.f k l0_2 l1_2).bind fun t104 => (if t104 = true then (some true) else (some false))) else (some false))) else (some false)) = some r := h
 clear h
 by_cases c3 : a0_0.toList = a1_0.toList
 ·rw [if_pos c3] at H
  have c3b0 : (a0_0.toList == a1_0.toList) = true := beq_iff_eq.mpr c3
  have c3b1 : (a0_0.toList != a1_0.toList) = false := bne_eq_false_iff_eq.mpr c3
  clear c3
  obtain ⟨t103, A4, H⟩ := bd H
  by_cases c5 : t103 = true
  ·subst c5
   replace H := iT H
   obtain ⟨t104, A6, H⟩ := bd H
   by_cases c7 : t104 = true
   ·subst c7
    replace H := iT H
    obtain rfl := Option.some.inj H
    go_enter Try.func115, Try.ntmps115
    go_wp2_with (first | (refine bX 2 #[.string a0_0, .slice A0_1 l0_1.length c0_1, .slice A0_2 l0_2.length c0_2] 56 ?_; intro gb101 hg w8 hbox hb; have BK101 := am (hbox); have GW101 := am (pY52 : w.heap.size ≤ gb101); have GE101 := am (pY52 : w.heap.size ≤ gb101); replace HB := bS pY55 hb; clear hb hbox hg) | (refine bX 3 #[.string a1_0, .slice A1_1 l1_1.length c1_1, .slice A1_2 l1_2.length c1_2] 56 ?_; intro gb102 hg w9 hbox hb; have BK102 := am (hbox); have GW102 := am (pY45 : w.heap.size ≤ gb102); have GE102 := am (pY45 : w.heap.size ≤ gb102); replace HB := bS pY53 hb; have NB101_102 := nL pY58 hg; have NB102_101 := nG pY58 hg; replace BK101 := bB pY58 hb; clear hb hbox hg; have hnb10 := NB101_102.1; have hnc10 := NB102_101.1; obtain ⟨hcz11_0, hcz11_1, hcz11_2, hfz11_0, hfz11_1, hfz11_2⟩ := cz3 BK101; obtain ⟨hcz12_0, hcz12_1, hcz12_2, hfz12_0, hfz12_1, hfz12_2⟩ := cz3 BK102) | ((with_reducible refine gate_callee (f := 34) rfl ?_); refine goesL_ (some 14) rfl rfl Try.func34 (by kernel_rfl) rfl #[.slice A0_1 l0_1.length c0_1, .slice A1_1 l1_1.length c1_1] rfl (pY54) ?_; (with_reducible refine (laws_eqStringS.calls k _ _ l0_1 _ _ l1_1 true _ ?side1 ?side2 ?side3 ?side4 A4.out).mono ?_); (case side1 => exact pC (Kd.C_below HR0_1.1 HB.1)); (case side2 => exact HC0_1.1); (case side3 => exact pC (Kd.C_below HR1_1.1 HB.1)); (case side4 => exact HC1_1.1); rintro e w' ⟨rfl, ⟨nd, rfl⟩⟩; refine ⟨_, rfl, ?_⟩) | ((with_reducible refine gate_callee (f := 34) rfl ?_); refine goesL_ (some 20) rfl rfl Try.func34 (by kernel_rfl) rfl #[.slice A0_2 l0_2.length c0_2, .slice A1_2 l1_2.length c1_2] rfl (pY54) ?_; (with_reducible refine (laws_eqStringS.calls k _ _ l0_2 _ _ l1_2 true _ ?side1 ?side2 ?side3 ?side4 A6.out).mono ?_); (case side1 => exact pC (Kd.C_below HR0_2.1 (pY46))); (case side2 => exact HC0_2.1); (case side3 => exact pC (Kd.C_below HR1_2.1 (pY46))); (case side4 => exact HC1_2.1); rintro e w' ⟨rfl, ⟨nd, rfl⟩⟩; refine ⟨_, rfl, ?_⟩))
    go_ret
    exact ⟨by first | rfl | (simp [errW_none, errW_some] <;> rfl) | (simp [*, errW_none, errW_some] <;> rfl), pY46⟩
   ·replace c7 := Bool.eq_false_iff.mpr c7
    subst c7
    replace H := iF H
    obtain rfl := Option.some.inj H
    go_enter Try.func115, Try.ntmps115
    go_wp2_with (first | (refine bX 2 #[.string a0_0, .slice A0_1 l0_1.length c0_1, .slice A0_2 l0_2.length c0_2] 56 ?_; intro gb101 hg w13 hbox hb; have BK101 := am (hbox); have GW101 := am (pY52 : w.heap.size ≤ gb101); have GE101 := am (pY52 : w.heap.size ≤ gb101); replace HB := bS pY55 hb; clear hb hbox hg) | (refine bX 3 #[.string a1_0, .slice A1_1 l1_1.length c1_1, .slice A1_2 l1_2.length c1_2] 56 ?_; intro gb102 hg w14 hbox hb; have BK102 := am (hbox); have GW102 := am (pY45 : w.heap.size ≤ gb102); have GE102 := am (pY45 : w.heap.size ≤ gb102); replace HB := bS pY53 hb; have NB101_102 := nL pY58 hg; have NB102_101 := nG pY58 hg; replace BK101 := bB pY58 hb; clear hb hbox hg; have hnb15 := NB101_102.1; have hnc15 := NB102_101.1; obtain ⟨hcz16_0, hcz16_1, hcz16_2, hfz16_0, hfz16_1, hfz16_2⟩ := cz3 BK101; obtain ⟨hcz17_0, hcz17_1, hcz17_2, hfz17_0, hfz17_1, hfz17_2⟩ := cz3 BK102) | ((with_reducible refine gate_callee (f := 34) rfl ?_); refine goesL_ (some 14) rfl rfl Try.func34 (by kernel_rfl) rfl #[.slice A0_1 l0_1.length c0_1, .slice A1_1 l1_1.length c1_1] rfl (pY54) ?_; (with_reducible refine (laws_eqStringS.calls k _ _ l0_1 _ _ l1_1 true _ ?side1 ?side2 ?side3 ?side4 A4.out).mono ?_); (case side1 => exact pC (Kd.C_below HR0_1.1 HB.1)); (case side2 => exact HC0_1.1); (case side3 => exact pC (Kd.C_below HR1_1.1 HB.1)); (case side4 => exact HC1_1.1); rintro e w' ⟨rfl, ⟨nd, rfl⟩⟩; refine ⟨_, rfl, ?_⟩) | ((with_reducible refine gate_callee (f := 34) rfl ?_); refine goesL_ (some 20) rfl rfl Try.func34 (by kernel_rfl) rfl #[.slice A0_2 l0_2.length c0_2, .slice A1_2 l1_2.length c1_2] rfl (pY54) ?_; (with_reducible refine (laws_eqStringS.calls k _ _ l0_2 _ _ l1_2 false _ ?side1 ?side2 ?side3 ?side4 A6.out).mono ?_); (case side1 => exact pC (Kd.C_below HR0_2.1 (pY46))); (case side2 => exact HC0_2.1); (case side3 => exact pC (Kd.C_below HR1_2.1 (pY46))); (case side4 => exact HC1_2.1); rintro e w' ⟨rfl, ⟨nd, rfl⟩⟩; refine ⟨_, rfl, ?_⟩))
    go_ret
    exact ⟨by first | rfl | (simp [errW_none, errW_some] <;> rfl) | (simp [*, errW_none, errW_some] <;> rfl), pY46⟩
  ·replace c5 := Bool.eq_false_iff.mpr c5
   subst c5
   replace H := iF H
   obtain rfl := Option.some.inj H
   go_enter Try.func115, Try.ntmps115
   go_wp2_with (first | (refine bX 2 #[.string a0_0, .slice A0_1 l0_1.length c0_1, .slice A0_2 l0_2.length c0_2] 56 ?_; intro gb101 hg w18 hbox hb; have BK101 := am (hbox); have GW101 := am (pY52 : w.heap.size ≤ gb101); have GE101 := am (pY52 : w.heap.size ≤ gb101); replace HB := bS pY55 hb; clear hb hbox hg) | (refine bX 3 #[.string a1_0, .slice A1_1 l1_1.length c1_1, .slice A1_2 l1_2.length c1_2] 56 ?_; intro gb102 hg w19 hbox hb; have BK102 := am (hbox); have GW102 := am (pY45 : w.heap.size ≤ gb102); have GE102 := am (pY45 : w.heap.size ≤ gb102); replace HB := bS pY53 hb; have NB101_102 := nL pY58 hg; have NB102_101 := nG pY58 hg; replace BK101 := bB pY58 hb; clear hb hbox hg; have hnb20 := NB101_102.1; have hnc20 := NB102_101.1; obtain ⟨hcz21_0, hcz21_1, hcz21_2, hfz21_0, hfz21_1, hfz21_2⟩ := cz3 BK101; obtain ⟨hcz22_0, hcz22_1, hcz22_2, hfz22_0, hfz22_1, hfz22_2⟩ := cz3 BK102) | ((with_reducible refine gate_callee (f := 34) rfl ?_); refine goesL_ (some 14) rfl rfl Try.func34 (by kernel_rfl) rfl #[.slice A0_1 l0_1.length c0_1, .slice A1_1 l1_1.length c1_1] rfl (pY54) ?_; (with_reducible refine (laws_eqStringS.calls k _ _ l0_1 _ _ l1_1 false _ ?side1 ?side2 ?side3 ?side4 A4.out).mono ?_); (case side1 => exact pC (Kd.C_below HR0_1.1 HB.1)); (case side2 => exact HC0_1.1); (case side3 => exact pC (Kd.C_below HR1_1.1 HB.1)); (case side4 => exact HC1_1.1); rintro e w' ⟨rfl, ⟨nd, rfl⟩⟩; refine ⟨_, rfl, ?_⟩))
   go_ret
   exact ⟨by first | rfl | (simp [errW_none, errW_some] <;> rfl) | (simp [*, errW_none, errW_some] <;> rfl), pY46⟩
 ·rw [if_neg c3] at H
  have c3b0 : (a0_0.toList == a1_0.toList) = false := beq_eq_false_iff_ne.mpr c3
  have c3b1 : (a0_0.toList != a1_0.toList) = true := bne_iff_ne.mpr c3
  obtain rfl := Option.some.inj H
  go_enter Try.func115, Try.ntmps115
  go_wp2_with (first | (refine bX 2 #[.string a0_0, .slice A0_1 l0_1.length c0_1, .slice A0_2 l0_2.length c0_2] 56 ?_; intro gb101 hg w23 hbox hb; have BK101 := am (hbox); have GW101 := am (pY52 : w.heap.size ≤ gb101); have GE101 := am (pY52 : w.heap.size ≤ gb101); replace HB := bS pY55 hb; clear hb hbox hg) | (refine bX 3 #[.string a1_0, .slice A1_1 l1_1.length c1_1, .slice A1_2 l1_2.length c1_2] 56 ?_; intro gb102 hg w24 hbox hb; have BK102 := am (hbox); have GW102 := am (pY45 : w.heap.size ≤ gb102); have GE102 := am (pY45 : w.heap.size ≤ gb102); replace HB := bS pY53 hb; have NB101_102 := nL pY58 hg; have NB102_101 := nG pY58 hg; replace BK101 := bB pY58 hb; clear hb hbox hg; have hnb25 := NB101_102.1; have hnc25 := NB102_101.1; obtain ⟨hcz26_0, hcz26_1, hcz26_2, hfz26_0, hfz26_1, hfz26_2⟩ := cz3 BK101; obtain ⟨hcz27_0, hcz27_1, hcz27_2, hfz27_0, hfz27_1, hfz27_2⟩ := cz3 BK102))
  go_ret
  exact ⟨by first | rfl | (simp [errW_none, errW_some] <;> rfl) | (simp [*, errW_none, errW_some] <;> rfl), pY46⟩
end Go.Proofs.Ytaofjgnhapnndaa.Q
namespace Go.Proofs.Ytaofjgnhapnndaa.Q
open Go.RowKit Go.Proofs.YtaofjgnhapnndaaW.PrintWords Go.Proofs.YtaofjgnhapnndaaW.PrintLast Go.Proofs.YtaofjgnhapnndaaW.PrintMore
set_option linter.unusedVariables false
set_option linter.unusedSimpArgs false
def laws_eqShareBatchS.l0 : Nat → List (S56) → List (S56) → Int → Option (Bool)
 | 0, _, _, _ => none
 | k + 1, x0, x1, x5 => if x5 < (x0.length : Int) then (if 0 ≤ x5 then (if x5 < (x1.length : Int) then ((laws_eqShareBatch.f k ((rd_T56 x0 x5).f0) ((rd_T56 x0 x5).f1) ((rd_T56 x0 x5).f2) ((rd_T56 x1 x5).f0) ((rd_T56 x1 x5).f1) ((rd_T56 x1 x5).f2)).bind fun t103 => (if t103 = true then (laws_eqShareBatchS.l0 k x0 x1 (wrap64 (x5 + 1))) else (some false))) else (none)) else (none)) else (some true)
def laws_eqShareBatchS.f (k : Nat) (l0 : List (S56)) (l1 : List (S56)) : Option (Bool) := if (l0.length : Int) = (l1.length : Int) then (laws_eqShareBatchS.l0 k l0 l1 0) else (some false)
def laws_eqShareBatchS.T6 : Bool × List (List Nat × List Nat) := (true, [([], []), ([], []), ([0, 1], [0, 1]), ([2], [2]), ([], []), ([], []), ([4, 5], [4, 5]), ([6], [6]), ([3, 7], [3, 7]), ([8], [8])])
def laws_eqShareBatchS.B6 : List Nat := [0, 0, 3, 7, 0, 0, 48, 112, 255, 511]
theorem laws_eqShareBatchS.tab6 : rtab .any (opsOf Try.f79 6) = laws_eqShareBatchS.T6 := by kernel_rfl
theorem laws_eqShareBatchS.bits6 : waitsOk laws_eqShareBatchS.T6.2 laws_eqShareBatchS.B6 = true := by kernel_rfl
set_option maxHeartbeats 8000000 in
set_option maxRecDepth 100000 in
theorem laws_eqShareBatchS.calls (k : Nat) (A0 : Option Addr) (c0 : Nat) (l0 : List (S56)) (A1 : Option Addr) (c1 : Nat) (l1 : List (S56)) (r : Bool) (w : World) (hr0 : Kd.C k56 w A0 l0.length l0) (hc0 : l0.length ≤ c0) (hr1 : Kd.C k56 w A1 l1.length l1) (hc1 : l1.length ≤ c1) (h : laws_eqShareBatchS.f k l0 l1 = some r) :
  Calls Try.prog 79 #[.slice A0 l0.length c0, .slice A1 l1.length c1] w fun e w' => e = .returned (.bool r) ∧ Below w.heap.size w w' := by
 have hu56 := Try.underlying56
 have HR0 := am hr0
 have HC0 := am hc0
 clear hr0 hc0
 have HR1 := am hr1
 have HC1 := am hc1
 clear hr1 hc1
 have HB := am (Below.refl w.heap.size w)
 have H : (if (l0.length : Int) = (l1.length : Int) then (laws_eqShareBatchS.l0 k l0 l1 0) else (some false)) = some r := h
 clear h
 by_cases c3 : (l0.length : Int) = (l1.length : Int)
 ·rw [if_pos c3] at H
  have c3b0 : ((l0.length : Int) == (l1.length : Int)) = true := beq_iff_eq.mpr c3
  have c3b1 : ((l0.length : Int) != (l1.length : Int)) = false := bne_eq_false_iff_eq.mpr c3
  have c3b2 : (l0.length == l1.length) = true := by first | simpa using c3 | (simp at c3 ⊢; omega)
  clear c3
  have H' := am H
  clear H
  go_enter Try.func79, Try.ntmps79
  go_wp2
  go_loopg [5] k (fun kq v5 w' => ∃ (x5_1 : Int), v5 = .int .i64 x5_1 ∧ Aside0 (laws_eqShareBatchS.l0 kq l0 l1 x5_1 = some r) ∧ Aside0 (kq ≤ k) ∧ Aside0 (Below w.heap.size w w'))
  case atStart => exact ⟨(0), (pY83), H', ⟨Nat.le_refl _⟩, ⟨pY55⟩⟩
  case round =>
   clear H'
   try clear c1
   try clear c3
   try clear c3b0
   try clear c3b1
   try clear c3b2
   obtain ⟨x5_1, rfl, HA, HK1, HB⟩ := hrel
   cases gk with
   | zero => exact absurd HA.out (by simp [laws_eqShareBatchS.l0])
   | succ k1 =>
    have H := HA.out
    clear HA
    simp only [laws_eqShareBatchS.l0] at H
    by_cases c4 : x5_1 < (l0.length : Int)
    ·rw [if_pos c4] at H
     have c4b0 : decide (x5_1 < (l0.length : Int)) = true := decide_eq_true c4
     clear c4
     by_cases c5 : 0 ≤ x5_1
     ·rw [if_pos c5] at H
      have c5b0 : decide (0 ≤ x5_1) = true := decide_eq_true c5
      clear c5
      by_cases c6 : x5_1 < (l1.length : Int)
      ·rw [if_pos c6] at H
       have c6b0 : decide (x5_1 < (l1.length : Int)) = true := decide_eq_true c6
       clear c6
       obtain ⟨t103, A7, H⟩ := bd H
       by_cases c8 : t103 = true
       ·subst c8
        replace H := iT H
        have H' := am H
        clear H
        try go_wp2
        replace HB := am (below_drew1 HB.1)
        have p101 : 0 ≤ (x5_1 : Int) := of_decide_eq_true (pY82)
        have q101 : x5_1 < (l0.length : Int) := of_decide_eq_true (pY82)
        obtain ⟨ad101, A101_1, c101_1, A101_2, c101_2, e101, hx101_0, hx101_1, hx101_2, hl101_1, hi101_1, hl101_2, hi101_2⟩ := at_T56 HR0.1 x5_1 p101 q101
        have hw101_2 := hx101_2
        have hw101_1 := hx101_1
        have hw101_0 := hx101_0
        cases e101
        replace hx101_0 := hX HB hx101_0
        replace hx101_1 := hX HB hx101_1
        replace hx101_2 := hX HB hx101_2
        have HR101_1 := am hi101_1
        have HC101_1 := am hl101_1
        clear hi101_1 hl101_1
        have HR101_2 := am hi101_2
        have HC101_2 := am hl101_2
        clear hi101_2 hl101_2
        replace p101 := eq_true p101
        replace q101 := eq_true q101
        have p102 : 0 ≤ (x5_1 : Int) := of_decide_eq_true (pY82)
        have q102 : x5_1 < (l1.length : Int) := of_decide_eq_true (pY82)
        obtain ⟨ad102, A102_1, c102_1, A102_2, c102_2, e102, hx102_0, hx102_1, hx102_2, hl102_1, hi102_1, hl102_2, hi102_2⟩ := at_T56 HR1.1 x5_1 p102 q102
        have hw102_2 := hx102_2
        have hw102_1 := hx102_1
        have hw102_0 := hx102_0
        cases e102
        replace hx102_0 := hX HB hx102_0
        replace hx102_1 := hX HB hx102_1
        replace hx102_2 := hX HB hx102_2
        have HR102_1 := am hi102_1
        have HC102_1 := am hl102_1
        clear hi102_1 hl102_1
        have HR102_2 := am hi102_2
        have HC102_2 := am hl102_2
        clear hi102_2 hl102_2
        replace p102 := eq_true p102
        replace q102 := eq_true q102
        refine sT [] 10 (uBx HB hw101_0 (uBx HB hw101_1 (uBx HB hw101_2 (uBx HB hw102_0 (uBx HB hw102_1 (uAx HB hw102_2)))))) (fun hHeld => ?_); refine with_tabW laws_eqShareBatchS.tab6 laws_eqShareBatchS.bits6 (fun HT_ HW_ => ?_)
        generalize wr.drew = w9 at HB HR101_1 HR101_2 HR102_1 HR102_2 hx101_0 hx101_1 hx101_2 hx102_0 hx102_1 hx102_2 hHeld ⊢
        refine pU 0 (some 17) ?_
        refine pU 1 (some 18) ?_
        refine pU 2 (some 19) ?_
        refine pU 4 (some 21) ?_
        refine pU 5 (some 22) ?_
        refine pU 6 (some 23) ?_
        refine tK6 3 (some 20) ?_
        refine tK6 7 (some 24) ?_
        refine oN 8 (some 25) fun K hK => ?_
        refine goes_ Try.func115 (by kernel_rfl) rfl #[.agg #[.string ((rd_T56 l0 x5_1).f0), .slice A101_1 ((rd_T56 l0 x5_1).f1).length c101_1, .slice A101_2 ((rd_T56 l0 x5_1).f2).length c101_2], .agg #[.string ((rd_T56 l1 x5_1).f0), .slice A102_1 ((rd_T56 l1 x5_1).f1).length c102_1, .slice A102_2 ((rd_T56 l1 x5_1).f2).length c102_2]] (by rfl) rfl rfl (pY54) ?_
        with_reducible refine (laws_eqShareBatch.calls k1 ((rd_T56 l0 x5_1).f0) _ _ ((rd_T56 l0 x5_1).f1) _ _ ((rd_T56 l0 x5_1).f2) ((rd_T56 l1 x5_1).f0) _ _ ((rd_T56 l1 x5_1).f1) _ _ ((rd_T56 l1 x5_1).f2) true _ ?side1 ?side2 ?side3 ?side4 ?side5 ?side6 ?side7 ?side8 A7.out).mono ?_
        (case side1 => exact pC (Kd.C_below HR101_1.1 HB.1))
        (case side2 => exact HC101_1.1)
        (case side3 => exact pC (Kd.C_below HR101_2.1 HB.1))
        (case side4 => exact HC101_2.1)
        (case side5 => exact pC (Kd.C_below HR102_1.1 HB.1))
        (case side6 => exact HC102_1.1)
        (case side7 => exact pC (Kd.C_below HR102_2.1 HB.1))
        (case side8 => exact HC102_2.1)
        rintro e w10 ⟨rfl, hb⟩
        refine ⟨_, rfl, ?_⟩
        replace HB := bS pY55 hb
        (try clear hb)
        (try clear hb2)
        (try clear hk)
        (try clear hi)
        refine hK.out _ _ (uBx HB hw101_0 (uBx HB hw101_1 (uBx HB hw101_2 (uBx HB hw102_0 (uBx HB hw102_1 (uAx HB hw102_2)))))).1 (fun hHeld => ?_)
        clear hK K
        refine nM ?_
        refine pU 9 (some 26) ?_
        refine done_ (done_of HT_.out (by kernel_rfl)) ?_
        try go_wp2
        go_roundg k1
        case measure => have := HK1.out; omega
        case rel => exact ⟨(wrap64 (x5_1 + 1)), (pY83), H', ⟨by have := HK1.out; omega⟩, ⟨pY55⟩⟩
       ·replace c8 := Bool.eq_false_iff.mpr c8
        subst c8
        replace H := iF H
        obtain rfl := Option.some.inj H
        try go_wp2
        replace HB := am (below_drew1 HB.1)
        have p101 : 0 ≤ (x5_1 : Int) := of_decide_eq_true (pY82)
        have q101 : x5_1 < (l0.length : Int) := of_decide_eq_true (pY82)
        obtain ⟨ad101, A101_1, c101_1, A101_2, c101_2, e101, hx101_0, hx101_1, hx101_2, hl101_1, hi101_1, hl101_2, hi101_2⟩ := at_T56 HR0.1 x5_1 p101 q101
        have hw101_2 := hx101_2
        have hw101_1 := hx101_1
        have hw101_0 := hx101_0
        cases e101
        replace hx101_0 := hX HB hx101_0
        replace hx101_1 := hX HB hx101_1
        replace hx101_2 := hX HB hx101_2
        have HR101_1 := am hi101_1
        have HC101_1 := am hl101_1
        clear hi101_1 hl101_1
        have HR101_2 := am hi101_2
        have HC101_2 := am hl101_2
        clear hi101_2 hl101_2
        replace p101 := eq_true p101
        replace q101 := eq_true q101
        have p102 : 0 ≤ (x5_1 : Int) := of_decide_eq_true (pY82)
        have q102 : x5_1 < (l1.length : Int) := of_decide_eq_true (pY82)
        obtain ⟨ad102, A102_1, c102_1, A102_2, c102_2, e102, hx102_0, hx102_1, hx102_2, hl102_1, hi102_1, hl102_2, hi102_2⟩ := at_T56 HR1.1 x5_1 p102 q102
        have hw102_2 := hx102_2
        have hw102_1 := hx102_1
        have hw102_0 := hx102_0
        cases e102
        replace hx102_0 := hX HB hx102_0
        replace hx102_1 := hX HB hx102_1
        replace hx102_2 := hX HB hx102_2
        have HR102_1 := am hi102_1
        have HC102_1 := am hl102_1
        clear hi102_1 hl102_1
        have HR102_2 := am hi102_2
        have HC102_2 := am hl102_2
        clear hi102_2 hl102_2
        replace p102 := eq_true p102
        replace q102 := eq_true q102
        refine sT [] 10 (uBx HB hw101_0 (uBx HB hw101_1 (uBx HB hw101_2 (uBx HB hw102_0 (uBx HB hw102_1 (uAx HB hw102_2)))))) (fun hHeld => ?_); refine with_tabW laws_eqShareBatchS.tab6 laws_eqShareBatchS.bits6 (fun HT_ HW_ => ?_)
        generalize wr.drew = w11 at HB HR101_1 HR101_2 HR102_1 HR102_2 hx101_0 hx101_1 hx101_2 hx102_0 hx102_1 hx102_2 hHeld ⊢
        refine pU 0 (some 17) ?_
        refine pU 1 (some 18) ?_
        refine pU 2 (some 19) ?_
        refine pU 4 (some 21) ?_
        refine pU 5 (some 22) ?_
        refine pU 6 (some 23) ?_
        refine tK6 3 (some 20) ?_
        refine tK6 7 (some 24) ?_
        refine oN 8 (some 25) fun K hK => ?_
        refine goes_ Try.func115 (by kernel_rfl) rfl #[.agg #[.string ((rd_T56 l0 x5_1).f0), .slice A101_1 ((rd_T56 l0 x5_1).f1).length c101_1, .slice A101_2 ((rd_T56 l0 x5_1).f2).length c101_2], .agg #[.string ((rd_T56 l1 x5_1).f0), .slice A102_1 ((rd_T56 l1 x5_1).f1).length c102_1, .slice A102_2 ((rd_T56 l1 x5_1).f2).length c102_2]] (by rfl) rfl rfl (pY54) ?_
        with_reducible refine (laws_eqShareBatch.calls k1 ((rd_T56 l0 x5_1).f0) _ _ ((rd_T56 l0 x5_1).f1) _ _ ((rd_T56 l0 x5_1).f2) ((rd_T56 l1 x5_1).f0) _ _ ((rd_T56 l1 x5_1).f1) _ _ ((rd_T56 l1 x5_1).f2) false _ ?side1 ?side2 ?side3 ?side4 ?side5 ?side6 ?side7 ?side8 A7.out).mono ?_
        (case side1 => exact pC (Kd.C_below HR101_1.1 HB.1))
        (case side2 => exact HC101_1.1)
        (case side3 => exact pC (Kd.C_below HR101_2.1 HB.1))
        (case side4 => exact HC101_2.1)
        (case side5 => exact pC (Kd.C_below HR102_1.1 HB.1))
        (case side6 => exact HC102_1.1)
        (case side7 => exact pC (Kd.C_below HR102_2.1 HB.1))
        (case side8 => exact HC102_2.1)
        rintro e w12 ⟨rfl, hb⟩
        refine ⟨_, rfl, ?_⟩
        replace HB := bS pY55 hb
        (try clear hb)
        (try clear hb2)
        (try clear hk)
        (try clear hi)
        refine hK.out _ _ (uBx HB hw101_0 (uBx HB hw101_1 (uBx HB hw101_2 (uBx HB hw102_0 (uBx HB hw102_1 (uAx HB hw102_2)))))).1 (fun hHeld => ?_)
        clear hK K
        refine nM ?_
        refine pU 9 (some 26) ?_
        refine done_ (done_of HT_.out (by kernel_rfl)) ?_
        try go_wp2
        go_ret
        exact ⟨by first | rfl | (simp [errW_none, errW_some] <;> rfl) | (simp [*, errW_none, errW_some] <;> rfl), pY55⟩
      ·rw [if_neg c6] at H
       exact absurd H (by simp)
     ·rw [if_neg c5] at H
      exact absurd H (by simp)
    ·rw [if_neg c4] at H
     have c4b0 : decide (x5_1 < (l0.length : Int)) = false := decide_eq_false c4
     clear c4
     obtain rfl := Option.some.inj H
     go_wp2
     go_ret
     exact ⟨by first | rfl | (simp [errW_none, errW_some] <;> rfl) | (simp [*, errW_none, errW_some] <;> rfl), pY55⟩
 ·rw [if_neg c3] at H
  have c3b0 : ((l0.length : Int) == (l1.length : Int)) = false := beq_eq_false_iff_ne.mpr c3
  have c3b1 : ((l0.length : Int) != (l1.length : Int)) = true := bne_iff_ne.mpr c3
  have c3b2 : (l0.length == l1.length) = false := by first | simpa using c3 | (simp at c3 ⊢; omega)
  obtain rfl := Option.some.inj H
  go_enter Try.func79, Try.ntmps79
  go_wp2
  go_ret
  exact ⟨by first | rfl | (simp [errW_none, errW_some] <;> rfl) | (simp [*, errW_none, errW_some] <;> rfl), pY55⟩
end Go.Proofs.Ytaofjgnhapnndaa.Q
namespace Go.Proofs.Ytaofjgnhapnndaa.Q
open Go.RowKit Go.Proofs.YtaofjgnhapnndaaW.PrintWords Go.Proofs.YtaofjgnhapnndaaW.PrintLast Go.Proofs.YtaofjgnhapnndaaW.PrintMore
set_option linter.unusedVariables false
set_option linter.unusedSimpArgs false
def laws_eqShareBook.f (k : Nat) (l0_0 : List ByteArray) (l0_1 : List (S56)) (l1_0 : List ByteArray) (l1_1 : List (S56)) : Option (Bool) := (laws_eqStringS.f k l0_0 l1_0).bind fun t103 => (if t103 = true then ((laws_eqShareBatchS.f k l0_1 l1_1).bind fun t104 => (if t104 = true then (some true) else (some false))) else (some false))
set_option maxHeartbeats 8000000 in
set_option maxRecDepth 100000 in
theorem laws_eqShareBook.calls (k : Nat) (A0_0 : Option Addr) (c0_0 : Nat) (l0_0 : List ByteArray) (A0_1 : Option Addr) (c0_1 : Nat) (l0_1 : List (S56)) (A1_0 : Option Addr) (c1_0 : Nat) (l1_0 : List ByteArray) (A1_1 : Option Addr) (c1_1 : Nat) (l1_1 : List (S56)) (r : Bool) (w : World) (hr0_0 : Kd.C Kd.string w A0_0 l0_0.length l0_0) (hc0_0 : l0_0.length ≤ c0_0) (hr0_1 : Kd.C k56 w A0_1 l0_1.length l0_1) (hc0_1 : l0_1.length ≤ c0_1) (hr1_0 : Kd.C Kd.string w A1_0 l1_0.length l1_0) (hc1_0 : l1_0.length ≤ c1_0) (hr1_1 : Kd.C k56 w A1_1 l1_1.length l1_1) (hc1_1 : l1_1.length ≤ c1_1) (h : laws_eqShareBook.f k l0_0 l0_1 l1_0 l1_1 = some r) :
  Calls Try.prog 25 #[.agg #[.slice A0_0 l0_0.length c0_0, .slice A0_1 l0_1.length c0_1], .agg #[.slice A1_0 l1_0.length c1_0, .slice A1_1 l1_1.length c1_1]] w fun e w' => e = .returned (.bool r) ∧ Below w.heap.size w w' := by
 have hu31 := Try.underlying31
 have HR0_0 := am hr0_0
 have HC0_0 := am hc0_0
 clear hr0_0 hc0_0
 have HR0_1 := am hr0_1
 have HC0_1 := am hc0_1
 clear hr0_1 hc0_1
 have HR1_0 := am hr1_0
 have HC1_0 := am hc1_0
 clear hr1_0 hc1_0
 have HR1_1 := am hr1_1
 have HC1_1 := am hc1_1
 clear hr1_1 hc1_1
 have HB := am (Below.refl w.heap.size w)
 have H : ((laws_eqStringS.f k l0_0 l1_0).bind fun t103 => (if t103 = true then ((laws_eqShareBatchS.f k l0_1 l1_1).bind fun t104 => (if t104 = true then (some true) else (some false))) else (some false))) = some r := h
 clear h
 obtain ⟨t103, A3, H⟩ := bd H
 by_cases c4 : t103 = true
 ·subst c4
  replace H := iT H
  obtain ⟨t104, A5, H⟩ := bd H
  by_cases c6 : t104 = true
  ·subst c6
   replace H := iT H
   obtain rfl := Option.some.inj H
   go_enter Try.func25, Try.ntmps25
   go_wp2_with (first | (refine bX 2 #[.slice A0_0 l0_0.length c0_0, .slice A0_1 l0_1.length c0_1] 31 ?_; intro gb101 hg w7 hbox hb; have BK101 := am (hbox); have GW101 := am (pY52 : w.heap.size ≤ gb101); have GE101 := am (pY52 : w.heap.size ≤ gb101); replace HB := bS pY55 hb; clear hb hbox hg) | (refine bX 3 #[.slice A1_0 l1_0.length c1_0, .slice A1_1 l1_1.length c1_1] 31 ?_; intro gb102 hg w8 hbox hb; have BK102 := am (hbox); have GW102 := am (pY45 : w.heap.size ≤ gb102); have GE102 := am (pY45 : w.heap.size ≤ gb102); replace HB := bS pY53 hb; have NB101_102 := nL pY58 hg; have NB102_101 := nG pY58 hg; replace BK101 := bB pY58 hb; clear hb hbox hg; have hnb9 := NB101_102.1; have hnc9 := NB102_101.1; obtain ⟨hcz10_0, hcz10_1, hfz10_0, hfz10_1⟩ := cz2 BK101; obtain ⟨hcz11_0, hcz11_1, hfz11_0, hfz11_1⟩ := cz2 BK102) | ((with_reducible refine gate_callee (f := 34) rfl ?_); refine goesL_ (some 9) rfl rfl Try.func34 (by kernel_rfl) rfl #[.slice A0_0 l0_0.length c0_0, .slice A1_0 l1_0.length c1_0] rfl (pY54) ?_; (with_reducible refine (laws_eqStringS.calls k _ _ l0_0 _ _ l1_0 true _ ?side1 ?side2 ?side3 ?side4 A3.out).mono ?_); (case side1 => exact pC (Kd.C_below HR0_0.1 HB.1)); (case side2 => exact HC0_0.1); (case side3 => exact pC (Kd.C_below HR1_0.1 HB.1)); (case side4 => exact HC1_0.1); rintro e w' ⟨rfl, ⟨nd, rfl⟩⟩; refine ⟨_, rfl, ?_⟩) | ((with_reducible refine gate_callee (f := 79) rfl ?_); refine goesL_ (some 15) rfl rfl Try.func79 (by kernel_rfl) rfl #[.slice A0_1 l0_1.length c0_1, .slice A1_1 l1_1.length c1_1] rfl (pY54) ?_; (with_reducible refine (laws_eqShareBatchS.calls k _ _ l0_1 _ _ l1_1 true _ ?side1 ?side2 ?side3 ?side4 A5.out).mono ?_); (case side1 => exact pC (Kd.C_below HR0_1.1 (pY46))); (case side2 => exact HC0_1.1); (case side3 => exact pC (Kd.C_below HR1_1.1 (pY46))); (case side4 => exact HC1_1.1); rintro e w12 ⟨rfl, hb⟩; refine ⟨_, rfl, ?_⟩; replace BK101 := bB pY58 hb; replace BK102 := bB pY59 hb; replace HB := bS pY46 hb; (try clear hb); (try clear hb2); (try clear hk); (try clear hi)))
   go_ret
   exact ⟨by first | rfl | (simp [errW_none, errW_some] <;> rfl) | (simp [*, errW_none, errW_some] <;> rfl), pY46⟩
  ·replace c6 := Bool.eq_false_iff.mpr c6
   subst c6
   replace H := iF H
   obtain rfl := Option.some.inj H
   go_enter Try.func25, Try.ntmps25
   go_wp2_with (first | (refine bX 2 #[.slice A0_0 l0_0.length c0_0, .slice A0_1 l0_1.length c0_1] 31 ?_; intro gb101 hg w13 hbox hb; have BK101 := am (hbox); have GW101 := am (pY52 : w.heap.size ≤ gb101); have GE101 := am (pY52 : w.heap.size ≤ gb101); replace HB := bS pY55 hb; clear hb hbox hg) | (refine bX 3 #[.slice A1_0 l1_0.length c1_0, .slice A1_1 l1_1.length c1_1] 31 ?_; intro gb102 hg w14 hbox hb; have BK102 := am (hbox); have GW102 := am (pY45 : w.heap.size ≤ gb102); have GE102 := am (pY45 : w.heap.size ≤ gb102); replace HB := bS pY53 hb; have NB101_102 := nL pY58 hg; have NB102_101 := nG pY58 hg; replace BK101 := bB pY58 hb; clear hb hbox hg; have hnb15 := NB101_102.1; have hnc15 := NB102_101.1; obtain ⟨hcz16_0, hcz16_1, hfz16_0, hfz16_1⟩ := cz2 BK101; obtain ⟨hcz17_0, hcz17_1, hfz17_0, hfz17_1⟩ := cz2 BK102) | ((with_reducible refine gate_callee (f := 34) rfl ?_); refine goesL_ (some 9) rfl rfl Try.func34 (by kernel_rfl) rfl #[.slice A0_0 l0_0.length c0_0, .slice A1_0 l1_0.length c1_0] rfl (pY54) ?_; (with_reducible refine (laws_eqStringS.calls k _ _ l0_0 _ _ l1_0 true _ ?side1 ?side2 ?side3 ?side4 A3.out).mono ?_); (case side1 => exact pC (Kd.C_below HR0_0.1 HB.1)); (case side2 => exact HC0_0.1); (case side3 => exact pC (Kd.C_below HR1_0.1 HB.1)); (case side4 => exact HC1_0.1); rintro e w' ⟨rfl, ⟨nd, rfl⟩⟩; refine ⟨_, rfl, ?_⟩) | ((with_reducible refine gate_callee (f := 79) rfl ?_); refine goesL_ (some 15) rfl rfl Try.func79 (by kernel_rfl) rfl #[.slice A0_1 l0_1.length c0_1, .slice A1_1 l1_1.length c1_1] rfl (pY54) ?_; (with_reducible refine (laws_eqShareBatchS.calls k _ _ l0_1 _ _ l1_1 false _ ?side1 ?side2 ?side3 ?side4 A5.out).mono ?_); (case side1 => exact pC (Kd.C_below HR0_1.1 (pY46))); (case side2 => exact HC0_1.1); (case side3 => exact pC (Kd.C_below HR1_1.1 (pY46))); (case side4 => exact HC1_1.1); rintro e w18 ⟨rfl, hb⟩; refine ⟨_, rfl, ?_⟩; replace BK101 := bB pY58 hb; replace BK102 := bB pY59 hb; replace HB := bS pY46 hb; (try clear hb); (try clear hb2); (try clear hk); (try clear hi)))
   go_ret
   exact ⟨by first | rfl | (simp [errW_none, errW_some] <;> rfl) | (simp [*, errW_none, errW_some] <;> rfl), pY46⟩
 ·replace c4 := Bool.eq_false_iff.mpr c4
  subst c4
  replace H := iF H
  obtain rfl := Option.some.inj H
  go_enter Try.func25, Try.ntmps25
  go_wp2_with (first | (refine bX 2 #[.slice A0_0 l0_0.length c0_0, .slice A0_1 l0_1.length c0_1] 31 ?_; intro gb101 hg w19 hbox hb; have BK101 := am (hbox); have GW101 := am (pY52 : w.heap.size ≤ gb101); have GE101 := am (pY52 : w.heap.size ≤ gb101); replace HB := bS pY55 hb; clear hb hbox hg) | (refine bX 3 #[.slice A1_0 l1_0.length c1_0, .slice A1_1 l1_1.length c1_1] 31 ?_; intro gb102 hg w20 hbox hb; have BK102 := am (hbox); have GW102 := am (pY45 : w.heap.size ≤ gb102); have GE102 := am (pY45 : w.heap.size ≤ gb102); replace HB := bS pY53 hb; have NB101_102 := nL pY58 hg; have NB102_101 := nG pY58 hg; replace BK101 := bB pY58 hb; clear hb hbox hg; have hnb21 := NB101_102.1; have hnc21 := NB102_101.1; obtain ⟨hcz22_0, hcz22_1, hfz22_0, hfz22_1⟩ := cz2 BK101; obtain ⟨hcz23_0, hcz23_1, hfz23_0, hfz23_1⟩ := cz2 BK102) | ((with_reducible refine gate_callee (f := 34) rfl ?_); refine goesL_ (some 9) rfl rfl Try.func34 (by kernel_rfl) rfl #[.slice A0_0 l0_0.length c0_0, .slice A1_0 l1_0.length c1_0] rfl (pY54) ?_; (with_reducible refine (laws_eqStringS.calls k _ _ l0_0 _ _ l1_0 false _ ?side1 ?side2 ?side3 ?side4 A3.out).mono ?_); (case side1 => exact pC (Kd.C_below HR0_0.1 HB.1)); (case side2 => exact HC0_0.1); (case side3 => exact pC (Kd.C_below HR1_0.1 HB.1)); (case side4 => exact HC1_0.1); rintro e w' ⟨rfl, ⟨nd, rfl⟩⟩; refine ⟨_, rfl, ?_⟩))
  go_ret
  exact ⟨by first | rfl | (simp [errW_none, errW_some] <;> rfl) | (simp [*, errW_none, errW_some] <;> rfl), pY46⟩
end Go.Proofs.Ytaofjgnhapnndaa.Q
namespace Go.Proofs.Ytaofjgnhapnndaa.Q
open Go.RowKit Go.Proofs.YtaofjgnhapnndaaW.PrintWords Go.Proofs.YtaofjgnhapnndaaW.PrintLast Go.Proofs.YtaofjgnhapnndaaW.PrintMore
set_option linter.unusedVariables false
set_option linter.unusedSimpArgs false
def laws_markText.l0 : Nat → Int → ByteArray → Option (ByteArray)
 | 0, _, _ => none
 | k + 1, x0, x3 => if x0 > 0 then ((some (([(wrap64 (48 + (Int.tmod x0 10))) % 256] : List Int) : List Int)).bind fun y101 => (if (strOfNums y101).size + x3.size ≤ 9223372036854775807 then (laws_markText.l0 k (wrap64 (Int.tdiv x0 10)) ((strOfNums y101) ++ x3)) else (none))) else (if 1 + x3.size ≤ 9223372036854775807 then (some ((⟨#[109]⟩ : ByteArray) ++ x3)) else (none))
def laws_markText.f (k : Nat) (a0 : Int) : Option (ByteArray) := if a0 ≤ 0 then (some (⟨#[109, 48]⟩ : ByteArray)) else (laws_markText.l0 k a0 (⟨#[]⟩ : ByteArray))
set_option maxHeartbeats 8000000 in
set_option maxRecDepth 100000 in
theorem laws_markText.calls (k : Nat) (a0 : Int) (r : ByteArray) (w : World) (h : laws_markText.f k a0 = some r) :
  Calls Try.prog 87 #[.int .i64 a0] w fun e w' => e = .returned (.string r) ∧ Below w.heap.size w w' := by
 have HB := am (Below.refl w.heap.size w)
 have H : (if a0 ≤ 0 then (some (⟨#[109, 48]⟩ : ByteArray)) else (laws_markText.l0 k a0 (⟨#[]⟩ : ByteArray))) = some r := h
 clear h
 by_cases c2 : a0 ≤ 0
 ·rw [if_pos c2] at H
  have c2b0 : decide (a0 ≤ 0) = true := decide_eq_true c2
  clear c2
  obtain rfl := Option.some.inj H
  go_enter Try.func87, Try.ntmps87
  go_wp2
  go_ret
  exact ⟨by first | rfl | (simp [errW_none, errW_some] <;> rfl) | (simp [*, errW_none, errW_some] <;> rfl), pY55⟩
 ·rw [if_neg c2] at H
  have c2b0 : decide (a0 ≤ 0) = false := decide_eq_false c2
  clear c2
  have H' := am H
  clear H
  go_enter Try.func87, Try.ntmps87
  go_wp2
  go_loopg [0, 3] k (fun kq v0 v3 w' => ∃ (x0_1 : Int) (x3_1 : ByteArray), v0 = .int .i64 x0_1 ∧ v3 = .string x3_1 ∧ Aside0 (laws_markText.l0 kq x0_1 x3_1 = some r) ∧ Aside0 (kq ≤ k) ∧ Aside0 (Below w.heap.size w w'))
  case atStart => exact ⟨(a0), ((⟨#[]⟩ : ByteArray)), (pY83), (pY83), H', ⟨Nat.le_refl _⟩, ⟨pY55⟩⟩
  case round =>
   clear H'
   try clear c2
   try clear c2b0
   obtain ⟨x0_1, x3_1, rfl, rfl, HA, HK1, HB⟩ := hrel
   cases gk with
   | zero => exact absurd HA.out (by simp [laws_markText.l0])
   | succ k1 =>
    have H := HA.out
    clear HA
    simp only [laws_markText.l0] at H
    by_cases c3 : x0_1 > 0
    ·rw [if_pos c3] at H
     have c3b0 : decide (0 < x0_1) = true := decide_eq_true c3
     clear c3
     first | (replace H := bZ (([(wrap64 (48 + (Int.tmod x0_1 10))) % 256] : List Int)) H; obtain ⟨y101, Ny101, H⟩ := H) | (obtain ⟨y101, Ny101⟩ := yv (([(wrap64 (48 + (Int.tmod x0_1 10))) % 256] : List Int)); rw [← Ny101.1] at H)
     by_cases c4 : (strOfNums y101).size + x3_1.size ≤ 9223372036854775807
     ·rw [if_pos c4] at H
      have c4b0 := eq_true c4
      have c4b1 : decide ((strOfNums y101).size + x3_1.size ≤ 9223372036854775807) = true := decide_eq_true c4
      try have c4b2 : (9223372036854775807 < (strOfNums y101).size + x3_1.size) = False := eq_false (Nat.not_lt.2 c4)
      have H' := am H
      clear H
      go_wp2_with (first | ((with_reducible refine gate_dst (N := 12) rfl ?_); refine Kd.R_lit (Kd.int .u8) _ 5 ?hg (N := 12) ?hd (xs := ([(wrap64 (48 + (Int.tmod x0_1 10))) % 256] : List Int)) (inner := [.int .u8 ((wrap64 (48 + (Int.tmod x0_1 10))) % 256)]) (ok := fun _ => True) (okp := fun _ => True) ?hr ?hp (fun _ hk => hk) trivial (Below.refl _ _) (Nat.le_refl _) (by simp) ?_; (case hd => rfl); (case hg => rfl); (case hr => first | (go_simp; done) | (go_simp; rfl)); (case hp => exact (Reps.one (show Kd.M (Kd.int .u8) _ _ _ ((wrap64 (48 + (Int.tmod x0_1 10))) % 256) [.int .u8 ((wrap64 (48 + (Int.tmod x0_1 10))) % 256)] from rfl) (Reps.none _ _))); intro v102 w5 ho6 hb hg_ hnew_; clear hg_ hnew_; (first | rw [← Ny101.out] at ho6 | (simp only [Int.reduceToNat] at ho6; rw [← Ny101.out] at ho6)); have HO103 := am (Kd.R_lower ho6 (below_size (pY55))); replace HB := bS pY55 hb; clear hb ho6; have hcv7 := own_string (P := Try.prog) Try.underlying51 Try.underlying5 Try.underlying9 (Kd.own_of_R HO103.1)))
      go_roundg k1
      case measure => have := HK1.out; omega
      case rel => exact ⟨(wrap64 (Int.tdiv x0_1 10)), ((strOfNums y101) ++ x3_1), (pY83), (pY83), H', ⟨by have := HK1.out; omega⟩, ⟨pY55⟩⟩
     ·rw [if_neg c4] at H
      exact absurd H (by simp)
    ·rw [if_neg c3] at H
     have c3b0 : decide (0 < x0_1) = false := decide_eq_false c3
     clear c3
     by_cases c8 : 1 + x3_1.size ≤ 9223372036854775807
     ·rw [if_pos c8] at H
      have c8b0 := eq_true c8
      have c8b1 : decide (1 + x3_1.size ≤ 9223372036854775807) = true := decide_eq_true c8
      try have c8b2 : (9223372036854775807 < 1 + x3_1.size) = False := eq_false (Nat.not_lt.2 c8)
      obtain rfl := Option.some.inj H
      go_wp2
      go_ret
      exact ⟨by first | rfl | (simp [errW_none, errW_some] <;> rfl) | (simp [*, errW_none, errW_some] <;> rfl), pY55⟩
     ·rw [if_neg c8] at H
      exact absurd H (by simp)
end Go.Proofs.Ytaofjgnhapnndaa.Q
namespace Go.Proofs.Ytaofjgnhapnndaa.Q
open Go.RowKit Go.Proofs.YtaofjgnhapnndaaW.PrintWords Go.Proofs.YtaofjgnhapnndaaW.PrintLast Go.Proofs.YtaofjgnhapnndaaW.PrintMore
set_option linter.unusedVariables false
set_option linter.unusedSimpArgs false
def laws_markStringS.l0 : Nat → List ByteArray → Int → Int → Option (Int × List ByteArray)
 | 0, _, _, _ => none
 | k + 1, x0, x1, x5 => if x5 < (x0.length : Int) then ((laws_markText.f k x1).bind fun t101 => (if 0 ≤ x5 then (laws_markStringS.l0 k (x0.set (x5 : Int).toNat t101) (wrap64 (x1 + 1)) (wrap64 (x5 + 1))) else (none))) else (some (x1, x0))
def laws_markStringS.f (k : Nat) (l0 : List ByteArray) (a1 : Int) : Option (Int × List ByteArray) := laws_markStringS.l0 k l0 a1 0
set_option maxHeartbeats 8000000 in
set_option maxRecDepth 100000 in
theorem laws_markStringS.calls (k : Nat) (P0_ : Nat → Prop) (u9000_ : Value) (l0 : List ByteArray) (a1 : Int) (r1 : Int) (r2 : List ByteArray) (w0 w : World) (hB : Below w0.heap.size w0 w) (ho0 : Kd.R Kd.string 9 w w0.heap.size P0_ u9000_ l0) (h : laws_markStringS.f k l0 a1 = some (r1, r2)) :
  Calls Try.prog 40 #[u9000_, .int .i64 a1] w fun e w' => e = .returned (.int .i64 r1) ∧ Kd.R Kd.string 9 w' w0.heap.size (fun k_ => (P0_ k_ ∨ w.heap.size ≤ k_)) u9000_ r2 ∧ Below w0.heap.size w0 w' ∧ Kept w w' (fun k_ => P0_ k_) := by
 have HO0 := am (show Kd.R Kd.string 9 w w0.heap.size (fun k_ => (P0_ k_ ∨ w.heap.size ≤ k_)) u9000_ l0 from Kd.R_mono ho0 (fun k_ hk => (.inl hk)))
 have HK := am (Kept.refl w (fun k_ => P0_ k_))
 have HW0 := am hB.size
 have HB := am hB
 clear hB
 have H : (laws_markStringS.l0 k l0 a1 0) = some (r1, r2) := h
 clear h
 have H' := am H
 clear H
 go_enter Try.func40, Try.ntmps40
 go_wp2
 go_loopg [1, 5] k (fun kq v1 v5 w' => ∃ (x0_1 : List ByteArray) (x1_1 : Int) (x5_1 : Int), v1 = .int .i64 x1_1 ∧ v5 = .int .i64 x5_1 ∧ Aside0 (laws_markStringS.l0 kq x0_1 x1_1 x5_1 = some (r1, r2)) ∧ Aside0 (kq ≤ k) ∧ Aside0 (Kd.R Kd.string 9 w' w0.heap.size (fun k_ => (P0_ k_ ∨ w.heap.size ≤ k_)) u9000_ x0_1) ∧ Aside0 (Kept w w' (fun k_ => P0_ k_)) ∧ Aside0 (Below w0.heap.size w0 w'))
 case atStart => exact ⟨(l0), (a1), (0), (pY83), (pY83), H', ⟨Nat.le_refl _⟩, ⟨rR HO0.1⟩, ⟨by repeat (first | (with_reducible first | exact HK.out | apply Kept.alloc | apply Kept.drewN | apply Kept.drew) | exact HK.out)⟩, ⟨pY55⟩⟩
 case round =>
  clear H'
  obtain ⟨x0_1, x1_1, x5_1, rfl, rfl, HA, HK1, HO_0, HK, HB⟩ := hrel
  cases gk with
  | zero => exact absurd HA.out (by simp [laws_markStringS.l0])
  | succ k1 =>
   have H := HA.out
   clear HA
   simp only [laws_markStringS.l0] at H
   by_cases c3 : x5_1 < (x0_1.length : Int)
   ·rw [if_pos c3] at H
    have c3b0 : decide (x5_1 < (x0_1.length : Int)) = true := decide_eq_true c3
    clear c3
    obtain ⟨t101, A4, H⟩ := bd H
    by_cases c5 : 0 ≤ x5_1
    ·rw [if_pos c5] at H
     have c5b0 : decide (0 ≤ x5_1) = true := decide_eq_true c5
     clear c5
     first | (replace H := bZ (x0_1.set (x5_1 : Int).toNat t101) H; obtain ⟨y102, Ny102, H⟩ := H) | (obtain ⟨y102, Ny102⟩ := yv (x0_1.set (x5_1 : Int).toNat t101); rw [← Ny102.1] at H)
     have H' := am H
     clear H
     obtain ⟨Ao7, co7, eo7⟩ := Kd.R_slice HO_0.1
     subst eo7
     go_wp2_with (first | ((with_reducible refine gate_callee (f := 87) rfl ?_); refine goesL_ (some 15) rfl rfl Try.func87 (by kernel_rfl) rfl #[.int .i64 x1_1] rfl (pY54) ?_; (with_reducible refine (laws_markText.calls k1 x1_1 t101 _ A4.out).mono ?_); rintro e w8 ⟨rfl, hb⟩; refine ⟨_, rfl, ?_⟩; replace HO_0 := am (Kd.R_below (rR HO_0.1) hb); replace HK := am (Kept.below (S := (fun k_ => P0_ k_)) (by repeat (first | (with_reducible first | exact HK.out | apply Kept.alloc | apply Kept.drewN | apply Kept.drew) | exact HK.out)) hb); replace HB := bS pY55 hb; (try clear hb); (try clear hb2); (try clear hk); (try clear hi); have p6 : 0 ≤ (x5_1 : Int) := of_decide_eq_true (pY82); have q6 : (x5_1 : Int) < ((x0_1.length : Int) : Int) := of_decide_eq_true (pY82); obtain ⟨go6, co6, eo6, gb6, gl6, cl6, HG6⟩ := Kd.R_form HO_0.1 (by omega); (first | cases eo6 | (injection eo6 with ea_ en_ ec_; (first | subst ea_ | (injection ea_ with ea_; subst ea_)); subst ec_; clear en_)); have GB6 := am gb6; have GG6 := am HG6; clear gb6 gl6 HG6; have HMgo6 := am (show (P0_ go6 ∨ w.heap.size ≤ go6) from (HO_0.1.1 _ rfl)); obtain ⟨hx6_0, hf6_0⟩ := Kd.R_celln (⟨#[]⟩ : ByteArray) HO_0.1 (x5_1 : Int) p6 q6; replace p6 := eq_true p6; replace q6 := eq_true q6; obtain ⟨hy9_, hz9_⟩ := Kd.R_celln (⟨#[]⟩ : ByteArray) HO_0.1 (x5_1 : Int) (of_decide_eq_true (pY82)) (of_decide_eq_true (pY82)); have HP9 := Kd.R_putg HO_0.1 (x5_1 : Int) t101) | ((with_reducible refine gate_store (t := 9) (p := 16) rfl ?_); refine store_event (t := 9) (p := 16) (v := ?vo_w10) (w1 := (w8.setCell ⟨go6, (x5_1 : Int).toNat, none⟩ (.string t101))) ?hg ?ho ?hn ?hr ?_; (case ho => rfl); (case hg => rfl); (case hn => rfl); (case hr => first | (go_simp; done) | (go_simp; rfl)); intro w10 hw; have hg : w8.grownBy w10 (some go6) := (by rw [hw]; exact HP9.2); have hp_ : Kd.R Kd.string 9 w10 w0.heap.size (fun k_ => (P0_ k_ ∨ w.heap.size ≤ k_)) (.slice (some ⟨go6, 0, none⟩) x0_1.length co7) y102 := (by rw [hw, Ny102.out]; exact HP9.1); clear HP9; replace HB := am (by rw [hw]; exact below_set (HB.1) GB6.out : Below w0.heap.size w0 w10); replace HK := am (Kept.of_grown (S := (fun k_ => P0_ k_)) hg (by repeat (first | (with_reducible first | exact HK.out | apply Kept.alloc | apply Kept.drewN | apply Kept.drew) | exact HK.out)) (fun k_ e_ => (HO_0.1.1 k_ e_))); replace HO_0 := am (hp_); clear hg hw hp_))
     go_roundg k1
     case measure => have := HK1.out; omega
     case rel => exact ⟨(y102), (wrap64 (x1_1 + 1)), (wrap64 (x5_1 + 1)), (pY83), (pY83), H', ⟨by have := HK1.out; omega⟩, ⟨rR HO_0.1⟩, ⟨by repeat (first | (with_reducible first | exact HK.out | apply Kept.alloc | apply Kept.drewN | apply Kept.drew) | exact HK.out)⟩, ⟨pY55⟩⟩
    ·rw [if_neg c5] at H
     exact absurd H (by simp)
   ·rw [if_neg c3] at H
    have c3b0 : decide (x5_1 < (x0_1.length : Int)) = false := decide_eq_false c3
    clear c3
    simp only [Option.some.injEq, Prod.mk.injEq] at H
    obtain ⟨rfl, rfl⟩ := H
    obtain ⟨Ao11, co11, eo11⟩ := Kd.R_slice HO_0.1
    subst eo11
    go_wp2
    go_ret
    exact ⟨by first | rfl | (simp [errW_none, errW_some] <;> rfl) | (simp [*, errW_none, errW_some] <;> rfl), rR HO_0.1, pY55, by repeat (first | (with_reducible first | exact HK.out | apply Kept.alloc | apply Kept.drewN | apply Kept.drew) | exact HK.out)⟩
end Go.Proofs.Ytaofjgnhapnndaa.Q
namespace Go.Proofs.Ytaofjgnhapnndaa.Q
open Go.RowKit Go.Proofs.YtaofjgnhapnndaaW.PrintWords Go.Proofs.YtaofjgnhapnndaaW.PrintLast Go.Proofs.YtaofjgnhapnndaaW.PrintMore
set_option linter.unusedVariables false
set_option linter.unusedSimpArgs false
theorem batch_name {W : World} {base g n cap : Nat} {P0 : Nat → Prop} {xs : List S56} (h : Kd.S k56 56 W base P0 (.slice (some ⟨g, 0, none⟩) n cap) xs) (i : Int) (h0 : 0 ≤ i) (h1 : i < n) (t : ByteArray) :
  (∃ u, W.cell? ⟨g, i.toNat * 3, none⟩ = some (.string u)) ∧ W.frozen? ⟨g, i.toNat * 3, none⟩ = false ∧
  Kd.S k56 56 (W.setCell ⟨g, i.toNat * 3, none⟩ (.string t)) base P0 (.slice (some ⟨g, 0, none⟩) n cap) (xs.set i.toNat ⟨t, (rd_T56 xs i).f1, (rd_T56 xs i).f2⟩) ∧ W.grownBy (W.setCell ⟨g, i.toNat * 3, none⟩ (.string t)) (some g) := by
 obtain ⟨oki, c, hcl, hM, hc, hf, hoki, hH⟩ := Kd.S_elem h z56 i h0 h1
 obtain ⟨v1, v2, rfl, g1, g2⟩ := k56_openM hM
 have hs := k56_sepM hM
 have := Kd.S_seg0 hH h0 h1 (seg := [.string t]) (j := 0) (x' := ⟨t, (rd_T56 xs i).f1, (rd_T56 xs i).f2⟩) (by show 0 + 1 ≤ 3; omega) (okp := oki) (k56_mkM _ _ _ ⟨t, (rd_T56 xs i).f1, (rd_T56 xs i).f2⟩ g1 g2 hs) (fun _ hk => hk)
 exact ⟨⟨_, hc 0 _ rfl⟩, hf 0, this.1, this.2⟩
theorem batch_has {W : World} {base g n cap : Nat} {P0 : Nat → Prop} {xs : List S56} (h : Kd.S k56 56 W base P0 (.slice (some ⟨g, 0, none⟩) n cap) xs) (i : Int) (h0 : 0 ≤ i) (h1 : i < n) :
  ∃ (A1 : Option Addr) (c1 : Nat) (P1 : Nat → Prop), W.cell? ⟨g, i.toNat * 3 + 1, none⟩ = some (.slice A1 (rd_T56 xs i).f1.length c1) ∧ Kd.string.R 9 W base P1 (.slice A1 (rd_T56 xs i).f1.length c1) (rd_T56 xs i).f1 ∧ (∀ k, P1 k → P0 k) ∧
   ∀ (W2 : World) (r : List ByteArray) (okr : Nat → Prop), Kept W W2 P1 → Kd.string.R 9 W2 base okr (.slice A1 (rd_T56 xs i).f1.length c1) r → Kd.S k56 56 W2 base P0 (.slice (some ⟨g, 0, none⟩) n cap) (xs.set i.toNat ⟨(rd_T56 xs i).f0, r, (rd_T56 xs i).f2⟩) := by
 obtain ⟨oki, c, hcl, hM, hc, hf, hoki, hH⟩ := Kd.S_elem h z56 i h0 h1
 obtain ⟨v1, v2, rfl, g1, g2⟩ := k56_openM hM
 have hs := k56_sepM hM
 obtain ⟨A1, c1, e1⟩ := Kd.R_slice g1
 subst e1
 refine ⟨A1, c1, fun k => some k = (.slice A1 (rd_T56 xs i).f1.length c1 : Value).ownBlock, hc 1 _ rfl, Kd.R_tight rfl g1, fun k hk => (hoki k (g1.1 k hk.symm)).1, fun W2 r okr hk hr => ?_⟩
 refine Kd.H_back (okp := oki) (Kd.H_kept hH hk (fun k _ hn hp => hn (g1.1 k hp.symm))) (k56_mkM _ _ _ ⟨(rd_T56 xs i).f0, r, (rd_T56 xs i).f2⟩ (Kd.R_mono (Kd.R_tight rfl hr) (fun k hp => g1.1 k hp.symm)) (Kd.R_mono (Kd.R_kept (Kd.R_tight rfl g2) hk (fun k h2 hp => hs k hp.symm h2.symm)) (fun k hp => g2.1 k hp.symm)) hs) (fun _ hk => hk)
theorem batch_needs {W : World} {base g n cap : Nat} {P0 : Nat → Prop} {xs : List S56} (h : Kd.S k56 56 W base P0 (.slice (some ⟨g, 0, none⟩) n cap) xs) (i : Int) (h0 : 0 ≤ i) (h1 : i < n) :
  ∃ (A1 : Option Addr) (c1 : Nat) (P1 : Nat → Prop), W.cell? ⟨g, i.toNat * 3 + 2, none⟩ = some (.slice A1 (rd_T56 xs i).f2.length c1) ∧ Kd.string.R 9 W base P1 (.slice A1 (rd_T56 xs i).f2.length c1) (rd_T56 xs i).f2 ∧ (∀ k, P1 k → P0 k) ∧
   ∀ (W2 : World) (r : List ByteArray) (okr : Nat → Prop), Kept W W2 P1 → Kd.string.R 9 W2 base okr (.slice A1 (rd_T56 xs i).f2.length c1) r → Kd.S k56 56 W2 base P0 (.slice (some ⟨g, 0, none⟩) n cap) (xs.set i.toNat ⟨(rd_T56 xs i).f0, (rd_T56 xs i).f1, r⟩) := by
 obtain ⟨oki, c, hcl, hM, hc, hf, hoki, hH⟩ := Kd.S_elem h z56 i h0 h1
 obtain ⟨v1, v2, rfl, g1, g2⟩ := k56_openM hM
 have hs := k56_sepM hM
 obtain ⟨A1, c1, e1⟩ := Kd.R_slice g2
 subst e1
 refine ⟨A1, c1, fun k => some k = (.slice A1 (rd_T56 xs i).f2.length c1 : Value).ownBlock, hc 2 _ rfl, Kd.R_tight rfl g2, fun k hk => (hoki k (g2.1 k hk.symm)).1, fun W2 r okr hk hr => ?_⟩
 refine Kd.H_back (okp := oki) (Kd.H_kept hH hk (fun k _ hn hp => hn (g2.1 k hp.symm))) (k56_mkM _ _ _ ⟨(rd_T56 xs i).f0, (rd_T56 xs i).f1, r⟩ (Kd.R_mono (Kd.R_kept (Kd.R_tight rfl g1) hk (fun k h2 hp => hs k h2.symm hp.symm)) (fun k hp => g1.1 k hp.symm)) (Kd.R_mono (Kd.R_tight rfl hr) (fun k hp => g2.1 k hp.symm)) hs) (fun _ hk => hk)
def laws_markShareBatchS.l0 : Nat → List S56 → Int → Int → Option (Int × List S56)
 | 0, _, _, _ => none
 | k + 1, xs, a, i => if i < (xs.length : Int) then (if 0 ≤ i then ((laws_markText.f k a).bind fun t => (laws_markStringS.f k (rd_T56 xs i).f1 (wrap64 (a + 1))).bind fun p => (laws_markStringS.f k (rd_T56 xs i).f2 p.1).bind fun q => laws_markShareBatchS.l0 k (xs.set i.toNat ⟨t, p.2, q.2⟩) q.1 (wrap64 (i + 1))) else none) else (some (a, xs))
def laws_markShareBatchS.f (k : Nat) (l0 : List S56) (a1 : Int) : Option (Int × List S56) := laws_markShareBatchS.l0 k l0 a1 0
theorem rdS_set {xs : List S56} {i : Int} (h0 : 0 ≤ i) (h1 : i < (xs.length : Int)) (x : S56) : rd_T56 (xs.set i.toNat x) i = x := by
 unfold rd_T56
 rw [List.getD_eq_getElem?_getD, List.getElem?_set_self (by omega)]
 rfl
set_option maxHeartbeats 8000000 in
set_option maxRecDepth 100000 in
theorem laws_markShareBatchS.calls (k : Nat) (P0_ : Nat → Prop) (v0 : Value) (l0 : List S56) (a1 : Int) (r1 : Int) (r2 : List S56) (w0 w : World) (hB : Below w0.heap.size w0 w) (ho0 : Kd.S k56 56 w w0.heap.size P0_ v0 l0) (h : laws_markShareBatchS.f k l0 a1 = some (r1, r2)) :
  Calls Try.prog 86 #[v0, .int .i64 a1] w fun e w' => e = .returned (.int .i64 r1) ∧ Kd.S k56 56 w' w0.heap.size P0_ v0 r2 ∧ Below w0.heap.size w0 w' ∧ Kept w w' P0_ := by
 have HO0 := am ho0
 clear ho0
 have HK0 := am (Kept.refl w P0_)
 have HB0 := am hB
 clear hB
 have H' := am (show laws_markShareBatchS.l0 k l0 a1 0 = some (r1, r2) from h)
 clear h
 have hu := Try.underlying56
 go_enter Try.func86, Try.ntmps86
 go_wp2
 go_loopg [1, 5] k (fun kq v1 v5 w' => ∃ (xs : List S56) (x1 : Int) (x5 : Int), v1 = .int .i64 x1 ∧ v5 = .int .i64 x5 ∧ Aside0 (laws_markShareBatchS.l0 kq xs x1 x5 = some (r1, r2)) ∧ Aside0 (kq ≤ k) ∧ Aside0 (Kd.S k56 56 w' w0.heap.size P0_ v0 xs) ∧ Aside0 (Kept w w' P0_) ∧ Aside0 (Below w0.heap.size w0 w'))
 case atStart => exact ⟨l0, a1, 0, rfl, rfl, H', ⟨Nat.le_refl _⟩, HO0, HK0, HB0⟩
 case round =>
  clear H' HO0 HK0 HB0
  obtain ⟨xs, x1, x5, rfl, rfl, HA, HK1, HO, HK, HB⟩ := hrel
  cases gk with
  | zero => exact absurd HA.out (by simp [laws_markShareBatchS.l0])
  | succ k1 =>
   have H := HA.out
   clear HA
   simp only [laws_markShareBatchS.l0] at H
   by_cases c3 : x5 < (xs.length : Int)
   ·rw [if_pos c3] at H
    by_cases c5 : 0 ≤ x5
    ·rw [if_pos c5] at H
     obtain ⟨t, A87, H⟩ := Option.bind_eq_some_iff.mp H
     obtain ⟨⟨p1, p2⟩, A40, H⟩ := Option.bind_eq_some_iff.mp H
     obtain ⟨⟨q1, q2⟩, B40, H⟩ := Option.bind_eq_some_iff.mp H
     obtain ⟨g, cap, e0, _, _, _⟩ := Kd.S_form HO.out (by omega)
     subst e0
     have c3b0 : decide (x5 < (xs.length : Int)) = true := decide_eq_true c3
     have AA := am A87
     have AB := am A40
     have AC := am B40
     have H' := am H
     have HR := am (And.intro c5 c3)
     clear A87 A40 B40 H c3
     have c5b : decide (0 ≤ x5) = true := decide_eq_true c5
     clear c5
     have GE : Aside0 (w0.heap.size ≤ g) := ⟨Kd.S_base HO.out g rfl⟩
     have HP : Aside0 (P0_ g) := ⟨(Kd.S_R HO.out).1 g rfl⟩
     generalize hxx : rd_T56 xs x5 = x at AB AC H'
     have HX := am hxx
     clear hxx
     go_wp2_with (first
      | ((with_reducible refine gate_callee (f := 87) rfl ?_); refine goesL_ (some 15) rfl rfl Try.func87 (by kernel_rfl) rfl #[.int .i64 x1] rfl (pY54) ?_; (with_reducible refine (laws_markText.calls k1 x1 t _ AA.out).mono ?_); rintro e w8 ⟨rfl, hb⟩; refine ⟨_, rfl, ?_⟩; have n0_ := am (Kd.S_below HO.out hb); have n1_ := am (Kept.below HK.out hb); have n2_ := bS HB.1 hb; clear HO HK HB hb; have HO := n0_; have HK := n1_; have HB := n2_; clear n0_ n1_ n2_; have GS := am (Kd.S_R HO.out); obtain ⟨⟨uu, hx⟩, hf, hS1, hg1⟩ := batch_name HO.out x5 HR.out.1 HR.out.2 t; rw [HX.out] at hS1; have HS1 := am hS1; have HG1 := am hg1; clear hS1 hg1; have p6 := eq_true HR.out.1; have q6 := eq_true HR.out.2)
      | ((with_reducible refine gate_store (t := 9) (p := 17) rfl ?_); refine store_event (t := 9) (p := 17) (v := ?vo_w10) (w1 := (w8.setCell ⟨g, x5.toNat * 3, none⟩ (.string t))) ?hg ?ho ?hn ?hr ?_; (case ho => rfl); (case hg => rfl); (case hn => rfl); (case hr => first | (go_simp; done) | (go_simp; rfl)); intro w10 hw; have n0_ := am (show Kd.S k56 56 w10 w0.heap.size P0_ (.slice (some ⟨g, 0, none⟩) xs.length cap) (xs.set x5.toNat ⟨t, x.f1, x.f2⟩) by rw [hw]; exact HS1.out); have n1_ := am (Kept.of_grown (show w8.grownBy w10 (some g) by rw [hw]; exact HG1.out) HK.out (fun k e => Or.inl (by injection e with e; rw [← e]; exact HP.out))); have n2_ := am (show Below w0.heap.size w0 w10 by rw [hw]; exact below_set HB.1 GE.out); clear HO HK HB HS1 HG1 GS hx hf hw; have HO := n0_; have HK := n1_; have HB := n2_; clear n0_ n1_ n2_; obtain ⟨A1, c1, P1, hx1, hr1, hp1, hback1⟩ := batch_has HO.out x5 HR.out.1 HR.out.2; rw [rdS_set HR.out.1 HR.out.2] at hx1 hr1 hback1; have HR1 := am hr1; have HP1 := am hp1; have HK1b := am hback1; clear hr1 hp1 hback1; skip)
      | ((with_reducible refine gate_callee (f := 40) rfl ?_); refine goesL_ (some 26) rfl rfl Try.func40 (by kernel_rfl) rfl #[.slice A1 x.f1.length c1, .int .i64 (wrap64 (x1 + 1))] rfl (pY54) ?_; (with_reducible refine (laws_markStringS.calls k1 P1 _ x.f1 (wrap64 (x1 + 1)) p1 p2 w0 _ HB.1 HR1.1 AB.out).mono ?_); rintro e w12 ⟨rfl, hrr, hbb, hkk⟩; refine ⟨_, rfl, ?_⟩; have n0_ := am (HK1b.out w12 p2 _ hkk hrr); have n1_ := am (HK.out.then_ hkk (fun k e => Or.inl (HP1.out k e))); have n2_ := am hbb; clear HO HK HB HR1 HP1 HK1b hx1 hrr hbb hkk; have HO := n0_; have HK := n1_; have HB := n2_; clear n0_ n1_ n2_; rw [List.set_set] at HO; obtain ⟨A2, c2, P2, hx2, hr2, hp2, hback2⟩ := batch_needs HO.out x5 HR.out.1 HR.out.2; rw [rdS_set HR.out.1 HR.out.2] at hx2 hr2 hback2; have HR2 := am hr2; have HP2 := am hp2; have HK2b := am hback2; clear hr2 hp2 hback2; skip)
      | ((with_reducible refine gate_callee (f := 40) rfl ?_); refine goesL_ (some 33) rfl rfl Try.func40 (by kernel_rfl) rfl #[.slice A2 x.f2.length c2, .int .i64 p1] rfl (pY54) ?_; (with_reducible refine (laws_markStringS.calls k1 P2 _ x.f2 p1 q1 q2 w0 _ HB.1 HR2.1 AC.out).mono ?_); rintro e w14 ⟨rfl, hrr, hbb, hkk⟩; refine ⟨_, rfl, ?_⟩; have n0_ := am (HK2b.out w14 q2 _ hkk hrr); have n1_ := am (HK.out.then_ hkk (fun k e => Or.inl (HP2.out k e))); have n2_ := am hbb; clear HO HK HB HR2 HP2 HK2b hx2 hrr hbb hkk; have HO := n0_; have HK := n1_; have HB := n2_; clear n0_ n1_ n2_; rw [List.set_set] at HO; skip))
     go_roundg k1
     case measure => have := HK1.out; omega
     case rel => exact ⟨xs.set x5.toNat ⟨t, p2, q2⟩, q1, wrap64 (x5 + 1), by first | rfl | simp, by first | rfl | simp, H', ⟨by have := HK1.out; omega⟩, HO, HK, HB⟩
    ·rw [if_neg c5] at H
     exact absurd H (by simp)
   ·rw [if_neg c3] at H
    have c3b0 : decide (x5 < (xs.length : Int)) = false := decide_eq_false c3
    clear c3
    simp only [Option.some.injEq, Prod.mk.injEq] at H
    obtain ⟨rfl, rfl⟩ := H
    obtain ⟨Ao11, co11, eo11⟩ := Kd.S_slice HO.out
    subst eo11
    go_wp2
    go_ret
    exact ⟨rfl, HO.out, HB.1, HK.out⟩
end Go.Proofs.Ytaofjgnhapnndaa.Q
namespace Go.Proofs.Ytaofjgnhapnndaa.Q
open Go.RowKit Go.Proofs.YtaofjgnhapnndaaW.PrintWords Go.Proofs.YtaofjgnhapnndaaW.PrintLast Go.Proofs.YtaofjgnhapnndaaW.PrintMore
set_option linter.unusedVariables false
set_option linter.unusedSimpArgs false
def laws_markShareBook.fB (k : Nat) (l0 : List ByteArray) (l1 : List S56) (a1 : Int) : Option (Int × List ByteArray × List S56) :=
 (laws_markStringS.f k l0 a1).bind fun p => (laws_markShareBatchS.f k l1 p.1).bind fun q => some (q.1, p.2, q.2)
set_option maxHeartbeats 8000000 in
set_option maxRecDepth 100000 in
theorem laws_markShareBook.callsB (k : Nat) (P0 P1 : Nat → Prop) (v0 v1 : Value) (l0 : List ByteArray) (l1 : List S56) (a1 : Int) (r1 : Int) (r2 : List ByteArray) (r3 : List S56) (w0 w : World) (hB : Below w0.heap.size w0 w) (ho0 : Kd.R Kd.string 9 w w0.heap.size P0 v0 l0) (ho1 : Kd.S k56 56 w w0.heap.size P1 v1 l1) (hap : ∀ k, P1 k → ¬ P0 k) (h : laws_markShareBook.fB k l0 l1 a1 = some (r1, r2, r3)) :
  Calls Try.prog 39 #[.agg #[v0, v1], .int .i64 a1] w fun e w' => e = .returned (.int .i64 r1) ∧ Kd.R Kd.string 9 w' w0.heap.size P0 v0 r2 ∧ Kd.S k56 56 w' w0.heap.size P1 v1 r3 ∧ Below w0.heap.size w0 w' ∧ Kept w w' (fun k => P0 k ∨ P1 k) := by
 obtain ⟨⟨p1, p2⟩, A40, H⟩ := Option.bind_eq_some_iff.mp h
 obtain ⟨⟨q1, q2⟩, A86, H⟩ := Option.bind_eq_some_iff.mp H
 simp only [Option.some.injEq, Prod.mk.injEq] at H
 obtain ⟨rfl, rfl, rfl⟩ := H
 obtain ⟨A0, c0, rfl⟩ := Kd.R_slice ho0
 obtain ⟨A1, c1, rfl⟩ := Kd.S_slice ho1
 have AA := am A40
 have AB := am A86
 have HO := am (Kd.R_tight rfl ho0)
 have HM := am (show ∀ k, some k = (.slice A0 l0.length c0 : Value).ownBlock → P0 k from fun k e => ho0.1 k e.symm)
 have HL := am (show ∀ k, some k = (.slice A0 l0.length c0 : Value).ownBlock → k < w.heap.size from fun k e => Kd.R_lt ho0 k e.symm)
 have HS := am ho1
 have HA := am hap
 have HB := am hB
 have HW := am hB.size
 clear A40 A86 h ho0 ho1 hap hB
 have hu := Try.underlying31
 go_enter Try.func39, Try.ntmps39
 go_wp2_with (first
  | ((with_reducible refine gate_dst (N := 2) rfl ?_); refine box_event ?hg (N := 2) ?hd (cs := #[.slice A0 l0.length c0, .slice A1 l1.length c1]) (t := 31) ?hr ?_; (case hd => rfl); (case hg => rfl); (case hr => first | (go_simp; done) | (go_simp; rfl)); intro gb hg w5 hbox hb; have n0_ := am (Kd.R_below HO.out hb); have n1_ := am (Kd.S_below HS.out hb); have n2_ := bS HB.1 hb; have HK := am (Kept.of_below hb (fun k => P0 k ∨ P1 k)); have HG := am (show ∀ k, some k = (.slice A0 l0.length c0 : Value).ownBlock → k ≠ gb from fun k e => by have := HL.out k e; omega); clear HO HS HB; have HO := n0_; have HS := n1_; have HB := n2_; clear n0_ n1_ n2_ hb; have BK := am hbox; clear hg hbox; have hcz0 : w5.cell? ⟨gb, 0, none⟩ = some (.slice A0 l0.length c0) := (blk_cell BK.out 0).trans rfl; skip)
  | ((with_reducible refine gate_callee (f := 40) rfl ?_); refine goesL_ (some 8) rfl rfl Try.func40 (by kernel_rfl) rfl #[.slice A0 l0.length c0, .int .i64 a1] rfl (pY54) ?_; (with_reducible refine (laws_markStringS.calls k (fun k => some k = (.slice A0 l0.length c0 : Value).ownBlock) _ l0 a1 p1 p2 w0 _ HB.1 HO.out AA.out).mono ?_); rintro e w7 ⟨rfl, hrr, hbb, hkk⟩; refine ⟨_, rfl, ?_⟩; have n0_ := am (Kd.R_tight rfl hrr); have n1_ := am (Kd.S_kept HS.out hkk (fun k h1 h2 => HA.out k h1 (HM.out k h2))); have n2_ := am hbb; have n3_ := am (HK.out.then_ hkk (fun k h2 => Or.inl (Or.inl (HM.out k h2)))); have hcz1 : w7.cell? ⟨gb, 1, none⟩ = some (.slice A1 l1.length c1) := (blk_cell (blk_kept BK.out hkk (fun e => HG.out gb e rfl)) 1).trans rfl; clear HO HS HB HK hrr hbb hkk hcz0 BK; have HO := n0_; have HS := n1_; have HB := n2_; have HK := n3_; clear n0_ n1_ n2_ n3_; skip)
  | ((with_reducible refine gate_callee (f := 86) rfl ?_); refine goesL_ (some 12) rfl rfl Try.func86 (by kernel_rfl) rfl #[.slice A1 l1.length c1, .int .i64 p1] rfl (pY54) ?_; (with_reducible refine (laws_markShareBatchS.calls k P1 _ l1 p1 q1 q2 w0 _ HB.1 HS.out AB.out).mono ?_); rintro e w9 ⟨rfl, hss, hbb, hkk⟩; refine ⟨_, rfl, ?_⟩; have n0_ := am (Kd.R_kept HO.out hkk (fun k h1 h2 => HA.out k h2 (HM.out k h1))); have n1_ := am hss; have n2_ := am hbb; have n3_ := am (HK.out.then_ hkk (fun k h2 => Or.inl (Or.inr h2))); clear HO HS HB HK hss hbb hkk hcz1; have HO := n0_; have HS := n1_; have HB := n2_; have HK := n3_; clear n0_ n1_ n2_ n3_; skip))
 go_ret
 exact ⟨rfl, Kd.R_mono HO.out (fun k e => HM.out k e), HS.out, HB.1, HK.out⟩
end Go.Proofs.Ytaofjgnhapnndaa.Q
namespace Go.Proofs.Ytaofjgnhapnndaa.Q
open Go.RowKit Go.Proofs.YtaofjgnhapnndaaW.PrintWords Go.Proofs.YtaofjgnhapnndaaW.PrintLast Go.Proofs.YtaofjgnhapnndaaW.PrintMore
set_option linter.unusedVariables false
set_option linter.unusedSimpArgs false
def laws_heldStringS.l0 : Nat → List ByteArray → Int → Int → Option (Int)
 | 0, _, _, _ => none
 | k + 1, x0, x1, x5 => if x5 < (x0.length : Int) then (if 0 ≤ x5 then ((laws_markText.f k x1).bind fun t102 => (if (rdOf ByteArray.empty x0 x5).toList = t102.toList then (laws_heldStringS.l0 k x0 (wrap64 (x1 + 1)) (wrap64 (x5 + 1))) else (some (-1)))) else (none)) else (some x1)
def laws_heldStringS.f (k : Nat) (l0 : List ByteArray) (a1 : Int) : Option (Int) := laws_heldStringS.l0 k l0 a1 0
set_option maxHeartbeats 8000000 in
set_option maxRecDepth 100000 in
theorem laws_heldStringS.calls (k : Nat) (A0 : Option Addr) (c0 : Nat) (l0 : List ByteArray) (a1 : Int) (r : Int) (w : World) (hr0 : Kd.C Kd.string w A0 l0.length l0) (hc0 : l0.length ≤ c0) (h : laws_heldStringS.f k l0 a1 = some r) :
  Calls Try.prog 41 #[.slice A0 l0.length c0, .int .i64 a1] w fun e w' => e = .returned (.int .i64 r) ∧ Below w.heap.size w w' := by
 have HR0 := am hr0
 have HC0 := am hc0
 clear hr0 hc0
 have HB := am (Below.refl w.heap.size w)
 have H : (laws_heldStringS.l0 k l0 a1 0) = some r := h
 clear h
 have H' := am H
 clear H
 go_enter Try.func41, Try.ntmps41
 go_wp2
 go_loopg [1, 5] k (fun kq v1 v5 w' => ∃ (x1_1 : Int) (x5_1 : Int), v1 = .int .i64 x1_1 ∧ v5 = .int .i64 x5_1 ∧ Aside0 (laws_heldStringS.l0 kq l0 x1_1 x5_1 = some r) ∧ Aside0 (kq ≤ k) ∧ Aside0 (Below w.heap.size w w'))
 case atStart => exact ⟨(a1), (0), (pY83), (pY83), H', ⟨Nat.le_refl _⟩, ⟨pY55⟩⟩
 case round =>
  clear H'
  obtain ⟨x1_1, x5_1, rfl, rfl, HA, HK1, HB⟩ := hrel
  cases gk with
  | zero => exact absurd HA.out (by simp [laws_heldStringS.l0])
  | succ k1 =>
   have H := HA.out
   clear HA
   simp only [laws_heldStringS.l0] at H
   by_cases c3 : x5_1 < (l0.length : Int)
   ·rw [if_pos c3] at H
    have c3b0 : decide (x5_1 < (l0.length : Int)) = true := decide_eq_true c3
    clear c3
    by_cases c4 : 0 ≤ x5_1
    ·rw [if_pos c4] at H
     have c4b0 : decide (0 ≤ x5_1) = true := decide_eq_true c4
     clear c4
     obtain ⟨t102, A5, H⟩ := bd H
     by_cases c6 : (rdOf ByteArray.empty l0 x5_1).toList = t102.toList
     ·rw [if_pos c6] at H
      have c6b0 : ((rdOf ByteArray.empty l0 x5_1).toList == t102.toList) = true := beq_iff_eq.mpr c6
      have c6b1 : ((rdOf ByteArray.empty l0 x5_1).toList != t102.toList) = false := bne_eq_false_iff_eq.mpr c6
      clear c6
      have H' := am H
      clear H
      try go_wp2
      replace HB := am (below_drew1 HB.1)
      have p101 : 0 ≤ (x5_1 : Int) := of_decide_eq_true (pY82)
      have q101 : x5_1 < (l0.length : Int) := of_decide_eq_true (pY82)
      obtain ⟨ad101, e101, hx101_0⟩ := Kd.at_string HR0.1 x5_1 p101 q101
      have hw101_0 := hx101_0
      cases e101
      replace hx101_0 := hX HB hx101_0
      replace p101 := eq_true p101
      replace q101 := eq_true q101
      refine sT [] 7 (uAx HB hw101_0) (fun hHeld => ?_)
      generalize wr.drew = w7 at HB hx101_0 hHeld ⊢
      refine pU0 0 (some 12) ?_
      refine pU0 1 (some 13) ?_
      refine pU0 2 (some 14) ?_
      refine pU0 4 (some 16) ?_
      refine tK1_ 3 (some 15) ?_
      refine oM 5 (some 17) fun K hK => ?_
      refine goes_ Try.func87 (by kernel_rfl) rfl #[.int .i64 x1_1] (by rfl) rfl rfl (pY54) ?_
      with_reducible refine (laws_markText.calls k1 x1_1 t102 _ A5.out).mono ?_
      rintro e w8 ⟨rfl, hb⟩
      refine ⟨_, rfl, ?_⟩
      replace HB := bS pY55 hb
      (try clear hb)
      (try clear hb2)
      (try clear hk)
      (try clear hi)
      refine hK.out _ _ (uAx HB hw101_0).1 (fun hHeld => ?_)
      clear hK K
      refine nM ?_
      refine pU0 6 (some 18) ?_
      refine done_ (by kernel_rfl) ?_
      try go_wp2
      go_roundg k1
      case measure => have := HK1.out; omega
      case rel => exact ⟨(wrap64 (x1_1 + 1)), (wrap64 (x5_1 + 1)), (pY83), (pY83), H', ⟨by have := HK1.out; omega⟩, ⟨pY55⟩⟩
     ·rw [if_neg c6] at H
      have c6b0 : ((rdOf ByteArray.empty l0 x5_1).toList == t102.toList) = false := beq_eq_false_iff_ne.mpr c6
      have c6b1 : ((rdOf ByteArray.empty l0 x5_1).toList != t102.toList) = true := bne_iff_ne.mpr c6
      obtain rfl := Option.some.inj H
      try go_wp2
      replace HB := am (below_drew1 HB.1)
      have p101 : 0 ≤ (x5_1 : Int) := of_decide_eq_true (pY82)
      have q101 : x5_1 < (l0.length : Int) := of_decide_eq_true (pY82)
      obtain ⟨ad101, e101, hx101_0⟩ := Kd.at_string HR0.1 x5_1 p101 q101
      have hw101_0 := hx101_0
      cases e101
      replace hx101_0 := hX HB hx101_0
      replace p101 := eq_true p101
      replace q101 := eq_true q101
      refine sT [] 7 (uAx HB hw101_0) (fun hHeld => ?_)
      generalize wr.drew = w9 at HB hx101_0 hHeld ⊢
      refine pU0 0 (some 12) ?_
      refine pU0 1 (some 13) ?_
      refine pU0 2 (some 14) ?_
      refine pU0 4 (some 16) ?_
      refine tK1_ 3 (some 15) ?_
      refine oM 5 (some 17) fun K hK => ?_
      refine goes_ Try.func87 (by kernel_rfl) rfl #[.int .i64 x1_1] (by rfl) rfl rfl (pY54) ?_
      with_reducible refine (laws_markText.calls k1 x1_1 t102 _ A5.out).mono ?_
      rintro e w10 ⟨rfl, hb⟩
      refine ⟨_, rfl, ?_⟩
      replace HB := bS pY55 hb
      (try clear hb)
      (try clear hb2)
      (try clear hk)
      (try clear hi)
      refine hK.out _ _ (uAx HB hw101_0).1 (fun hHeld => ?_)
      clear hK K
      refine nM ?_
      refine pU0 6 (some 18) ?_
      refine done_ (by kernel_rfl) ?_
      try go_wp2
      go_ret
      exact ⟨by first | rfl | (simp [errW_none, errW_some] <;> rfl) | (simp [*, errW_none, errW_some] <;> rfl), pY55⟩
    ·rw [if_neg c4] at H
     exact absurd H (by simp)
   ·rw [if_neg c3] at H
    have c3b0 : decide (x5_1 < (l0.length : Int)) = false := decide_eq_false c3
    clear c3
    obtain rfl := Option.some.inj H
    go_wp2
    go_ret
    exact ⟨by first | rfl | (simp [errW_none, errW_some] <;> rfl) | (simp [*, errW_none, errW_some] <;> rfl), pY55⟩
end Go.Proofs.Ytaofjgnhapnndaa.Q
namespace Go.Proofs.Ytaofjgnhapnndaa.Q
open Go.RowKit Go.Proofs.YtaofjgnhapnndaaW.PrintWords Go.Proofs.YtaofjgnhapnndaaW.PrintLast Go.Proofs.YtaofjgnhapnndaaW.PrintMore
set_option linter.unusedVariables false
set_option linter.unusedSimpArgs false
def laws_heldShareBatchS.l0 : Nat → List (S56) → Int → Int → Option (Int)
 | 0, _, _, _ => none
 | k + 1, x0, x1, x5 => if x5 < (x0.length : Int) then (if 0 ≤ x5 then ((laws_markText.f k x1).bind fun t102 => (if ((rd_T56 x0 x5).f0).toList = t102.toList then ((laws_heldStringS.f k ((rd_T56 x0 x5).f1) (wrap64 (x1 + 1))).bind fun t104 => (if t104 < 0 then (some (-1)) else ((laws_heldStringS.f k ((rd_T56 x0 x5).f2) t104).bind fun t106 => (if t106 < 0 then (some (-1)) else (laws_heldShareBatchS.l0 k x0 t106 (wrap64 (x5 + 1))))))) else (some (-1)))) else (none)) else (some x1)
def laws_heldShareBatchS.f (k : Nat) (l0 : List (S56)) (a1 : Int) : Option (Int) := laws_heldShareBatchS.l0 k l0 a1 0
def laws_heldShareBatchS.T4 : Bool × List (List Nat × List Nat) := (true, [([], []), ([], []), ([0, 1], [0, 1]), ([2], [2]), ([3], [3]), ([], []), ([5], [5]), ([4, 6], [4, 6])])
def laws_heldShareBatchS.B4 : List Nat := [0, 0, 3, 7, 15, 0, 32, 127]
theorem laws_heldShareBatchS.tab4 : rtab .any (opsOf Try.f92 4) = laws_heldShareBatchS.T4 := by kernel_rfl
theorem laws_heldShareBatchS.bits4 : waitsOk laws_heldShareBatchS.T4.2 laws_heldShareBatchS.B4 = true := by kernel_rfl
set_option maxHeartbeats 8000000 in
set_option maxRecDepth 100000 in
theorem laws_heldShareBatchS.calls (k : Nat) (A0 : Option Addr) (c0 : Nat) (l0 : List (S56)) (a1 : Int) (r : Int) (w : World) (hr0 : Kd.C k56 w A0 l0.length l0) (hc0 : l0.length ≤ c0) (h : laws_heldShareBatchS.f k l0 a1 = some r) :
  Calls Try.prog 92 #[.slice A0 l0.length c0, .int .i64 a1] w fun e w' => e = .returned (.int .i64 r) ∧ Below w.heap.size w w' := by
 have HR0 := am hr0
 have HC0 := am hc0
 clear hr0 hc0
 have HB := am (Below.refl w.heap.size w)
 have H : (laws_heldShareBatchS.l0 k l0 a1 0) = some r := h
 clear h
 have H' := am H
 clear H
 go_enter Try.func92, Try.ntmps92
 go_wp2
 go_loopg [1, 5] k (fun kq v1 v5 w' => ∃ (x1_1 : Int) (x5_1 : Int), v1 = .int .i64 x1_1 ∧ v5 = .int .i64 x5_1 ∧ Aside0 (laws_heldShareBatchS.l0 kq l0 x1_1 x5_1 = some r) ∧ Aside0 (kq ≤ k) ∧ Aside0 (Below w.heap.size w w'))
 case atStart => exact ⟨(a1), (0), (pY83), (pY83), H', ⟨Nat.le_refl _⟩, ⟨pY55⟩⟩
 case round =>
  clear H'
  obtain ⟨x1_1, x5_1, rfl, rfl, HA, HK1, HB⟩ := hrel
  cases gk with
  | zero => exact absurd HA.out (by simp [laws_heldShareBatchS.l0])
  | succ k1 =>
   have H := HA.out
   clear HA
   simp only [laws_heldShareBatchS.l0] at H
   by_cases c3 : x5_1 < (l0.length : Int)
   ·rw [if_pos c3] at H
    have c3b0 : decide (x5_1 < (l0.length : Int)) = true := decide_eq_true c3
    clear c3
    by_cases c4 : 0 ≤ x5_1
    ·rw [if_pos c4] at H
     have c4b0 : decide (0 ≤ x5_1) = true := decide_eq_true c4
     clear c4
     obtain ⟨t102, A5, H⟩ := bd H
     by_cases c6 : ((rd_T56 l0 x5_1).f0).toList = t102.toList
     ·rw [if_pos c6] at H
      have c6b0 : (((rd_T56 l0 x5_1).f0).toList == t102.toList) = true := beq_iff_eq.mpr c6
      have c6b1 : (((rd_T56 l0 x5_1).f0).toList != t102.toList) = false := bne_eq_false_iff_eq.mpr c6
      clear c6
      obtain ⟨t104, A7, H⟩ := bd H
      by_cases c8 : t104 < 0
      ·rw [if_pos c8] at H
       have c8b0 : decide (t104 < 0) = true := decide_eq_true c8
       clear c8
       obtain rfl := Option.some.inj H
       try go_wp2
       replace HB := am (below_drew1 HB.1)
       have p101 : 0 ≤ (x5_1 : Int) := of_decide_eq_true (pY82)
       have q101 : x5_1 < (l0.length : Int) := of_decide_eq_true (pY82)
       obtain ⟨ad101, A101_1, c101_1, A101_2, c101_2, e101, hx101_0, hx101_1, hx101_2, hl101_1, hi101_1, hl101_2, hi101_2⟩ := at_T56 HR0.1 x5_1 p101 q101
       have hw101_2 := hx101_2
       have hw101_1 := hx101_1
       have hw101_0 := hx101_0
       cases e101
       replace hx101_0 := hX HB hx101_0
       replace hx101_1 := hX HB hx101_1
       replace hx101_2 := hX HB hx101_2
       have HR101_1 := am hi101_1
       have HC101_1 := am hl101_1
       clear hi101_1 hl101_1
       have HR101_2 := am hi101_2
       have HC101_2 := am hl101_2
       clear hi101_2 hl101_2
       replace p101 := eq_true p101
       replace q101 := eq_true q101
       refine sT [] 8 (uBx HB hw101_0 (uBx HB hw101_1 (uAx HB hw101_2))) (fun hHeld => ?_); refine with_tabW laws_heldShareBatchS.tab4 laws_heldShareBatchS.bits4 (fun HT_ HW_ => ?_)
       generalize wr.drew = w9 at HB HR101_1 HR101_2 hx101_0 hx101_1 hx101_2 hHeld ⊢
       refine pU 0 (some 12) ?_
       refine pU 1 (some 13) ?_
       refine pU 2 (some 14) ?_
       refine pU 3 (some 15) ?_
       refine pU 5 (some 17) ?_
       refine tK3 4 (some 16) ?_
       refine oN 6 (some 18) fun K hK => ?_
       refine goes_ Try.func87 (by kernel_rfl) rfl #[.int .i64 x1_1] (by rfl) rfl rfl (pY54) ?_
       with_reducible refine (laws_markText.calls k1 x1_1 t102 _ A5.out).mono ?_
       rintro e w10 ⟨rfl, hb⟩
       refine ⟨_, rfl, ?_⟩
       replace HB := bS pY55 hb
       (try clear hb)
       (try clear hb2)
       (try clear hk)
       (try clear hi)
       refine hK.out _ _ (uBx HB hw101_0 (uBx HB hw101_1 (uAx HB hw101_2))).1 (fun hHeld => ?_)
       clear hK K
       refine nM ?_
       refine pU 7 (some 19) ?_
       refine done_ (done_of HT_.out (by kernel_rfl)) ?_
       have p103 : 0 ≤ (x5_1 : Int) := of_decide_eq_true (pY82)
       have q103 : x5_1 < (l0.length : Int) := of_decide_eq_true (pY82)
       try clear hx101_0
       try clear hx101_1
       try clear hx101_2
       try clear hHeld
       obtain ⟨ad103, A103_1, c103_1, A103_2, c103_2, e103, hx103_0, hx103_1, hx103_2, hl103_1, hi103_1, hl103_2, hi103_2⟩ := at_T56 HR0.1 x5_1 p103 q103
       obtain rfl : ad101 = ad103 := (by injection e103)
       replace hx103_0 := hX HB hx103_0
       replace hx103_1 := hX HB hx103_1
       replace hx103_2 := hX HB hx103_2
       have HR103_1 := am hi103_1
       have HC103_1 := am hl103_1
       clear hi103_1 hl103_1
       have HR103_2 := am hi103_2
       have HC103_2 := am hl103_2
       clear hi103_2 hl103_2
       replace p103 := eq_true p103
       replace q103 := eq_true q103
       try go_wp2_with (first | ((with_reducible refine gate_callee (f := 41) rfl ?_); refine goesL_ (some 28) rfl rfl Try.func41 (by kernel_rfl) rfl #[.slice A103_1 ((rd_T56 l0 x5_1).f1).length c103_1, .int .i64 (wrap64 (x1_1 + 1))] rfl (pY54) ?_; (with_reducible refine (laws_heldStringS.calls k1 _ _ ((rd_T56 l0 x5_1).f1) (wrap64 (x1_1 + 1)) t104 _ ?side1 ?side2 A7.out).mono ?_); (case side1 => exact pC (Kd.C_below HR103_1.1 HB.1)); (case side2 => exact HC103_1.1); rintro e w11 ⟨rfl, hb⟩; refine ⟨_, rfl, ?_⟩; replace HB := bS pY55 hb; (try clear hb); (try clear hb2); (try clear hk); (try clear hi)))
       go_ret
       exact ⟨by first | rfl | (simp [errW_none, errW_some] <;> rfl) | (simp [*, errW_none, errW_some] <;> rfl), pY55⟩
      ·rw [if_neg c8] at H
       have c8b0 : decide (t104 < 0) = false := decide_eq_false c8
       clear c8
       obtain ⟨t106, A12, H⟩ := bd H
       by_cases c13 : t106 < 0
       ·rw [if_pos c13] at H
        have c13b0 : decide (t106 < 0) = true := decide_eq_true c13
        clear c13
        obtain rfl := Option.some.inj H
        try go_wp2
        replace HB := am (below_drew1 HB.1)
        have p101 : 0 ≤ (x5_1 : Int) := of_decide_eq_true (pY82)
        have q101 : x5_1 < (l0.length : Int) := of_decide_eq_true (pY82)
        obtain ⟨ad101, A101_1, c101_1, A101_2, c101_2, e101, hx101_0, hx101_1, hx101_2, hl101_1, hi101_1, hl101_2, hi101_2⟩ := at_T56 HR0.1 x5_1 p101 q101
        have hw101_2 := hx101_2
        have hw101_1 := hx101_1
        have hw101_0 := hx101_0
        cases e101
        replace hx101_0 := hX HB hx101_0
        replace hx101_1 := hX HB hx101_1
        replace hx101_2 := hX HB hx101_2
        have HR101_1 := am hi101_1
        have HC101_1 := am hl101_1
        clear hi101_1 hl101_1
        have HR101_2 := am hi101_2
        have HC101_2 := am hl101_2
        clear hi101_2 hl101_2
        replace p101 := eq_true p101
        replace q101 := eq_true q101
        refine sT [] 8 (uBx HB hw101_0 (uBx HB hw101_1 (uAx HB hw101_2))) (fun hHeld => ?_); refine with_tabW laws_heldShareBatchS.tab4 laws_heldShareBatchS.bits4 (fun HT_ HW_ => ?_)
        generalize wr.drew = w14 at HB HR101_1 HR101_2 hx101_0 hx101_1 hx101_2 hHeld ⊢
        refine pU 0 (some 12) ?_
        refine pU 1 (some 13) ?_
        refine pU 2 (some 14) ?_
        refine pU 3 (some 15) ?_
        refine pU 5 (some 17) ?_
        refine tK3 4 (some 16) ?_
        refine oN 6 (some 18) fun K hK => ?_
        refine goes_ Try.func87 (by kernel_rfl) rfl #[.int .i64 x1_1] (by rfl) rfl rfl (pY54) ?_
        with_reducible refine (laws_markText.calls k1 x1_1 t102 _ A5.out).mono ?_
        rintro e w15 ⟨rfl, hb⟩
        refine ⟨_, rfl, ?_⟩
        replace HB := bS pY55 hb
        (try clear hb)
        (try clear hb2)
        (try clear hk)
        (try clear hi)
        refine hK.out _ _ (uBx HB hw101_0 (uBx HB hw101_1 (uAx HB hw101_2))).1 (fun hHeld => ?_)
        clear hK K
        refine nM ?_
        refine pU 7 (some 19) ?_
        refine done_ (done_of HT_.out (by kernel_rfl)) ?_
        have p103 : 0 ≤ (x5_1 : Int) := of_decide_eq_true (pY82)
        have q103 : x5_1 < (l0.length : Int) := of_decide_eq_true (pY82)
        try clear hx101_0
        try clear hx101_1
        try clear hx101_2
        try clear hHeld
        obtain ⟨ad103, A103_1, c103_1, A103_2, c103_2, e103, hx103_0, hx103_1, hx103_2, hl103_1, hi103_1, hl103_2, hi103_2⟩ := at_T56 HR0.1 x5_1 p103 q103
        obtain rfl : ad101 = ad103 := (by injection e103)
        replace hx103_0 := hX HB hx103_0
        replace hx103_1 := hX HB hx103_1
        replace hx103_2 := hX HB hx103_2
        have HR103_1 := am hi103_1
        have HC103_1 := am hl103_1
        clear hi103_1 hl103_1
        have HR103_2 := am hi103_2
        have HC103_2 := am hl103_2
        clear hi103_2 hl103_2
        replace p103 := eq_true p103
        replace q103 := eq_true q103
        try go_wp2_with (first | ((with_reducible refine gate_callee (f := 41) rfl ?_); refine goesL_ (some 28) rfl rfl Try.func41 (by kernel_rfl) rfl #[.slice A103_1 ((rd_T56 l0 x5_1).f1).length c103_1, .int .i64 (wrap64 (x1_1 + 1))] rfl (pY54) ?_; (with_reducible refine (laws_heldStringS.calls k1 _ _ ((rd_T56 l0 x5_1).f1) (wrap64 (x1_1 + 1)) t104 _ ?side1 ?side2 A7.out).mono ?_); (case side1 => exact pC (Kd.C_below HR103_1.1 HB.1)); (case side2 => exact HC103_1.1); rintro e w16 ⟨rfl, hb⟩; refine ⟨_, rfl, ?_⟩; replace HB := bS pY55 hb; (try clear hb); (try clear hb2); (try clear hk); (try clear hi); have p105 : 0 ≤ (x5_1 : Int) := of_decide_eq_true (pY82); have q105 : x5_1 < (l0.length : Int) := of_decide_eq_true (pY82); obtain ⟨ad105, A105_1, c105_1, A105_2, c105_2, e105, hx105_0, hx105_1, hx105_2, hl105_1, hi105_1, hl105_2, hi105_2⟩ := at_T56 HR0.1 x5_1 p105 q105; obtain rfl : ad101 = ad105 := (by injection e105); replace hx105_0 := hX HB hx105_0; replace hx105_1 := hX HB hx105_1; replace hx105_2 := hX HB hx105_2; have HR105_1 := am hi105_1; have HC105_1 := am hl105_1; clear hi105_1 hl105_1; have HR105_2 := am hi105_2; have HC105_2 := am hl105_2; clear hi105_2 hl105_2; replace p105 := eq_true p105; replace q105 := eq_true q105) | ((with_reducible refine gate_callee (f := 41) rfl ?_); refine goesL_ (some 37) rfl rfl Try.func41 (by kernel_rfl) rfl #[.slice A105_2 ((rd_T56 l0 x5_1).f2).length c105_2, .int .i64 t104] rfl (pY54) ?_; (with_reducible refine (laws_heldStringS.calls k1 _ _ ((rd_T56 l0 x5_1).f2) t104 t106 _ ?side1 ?side2 A12.out).mono ?_); (case side1 => exact pC (Kd.C_below HR105_2.1 HB.1)); (case side2 => exact HC105_2.1); rintro e w17 ⟨rfl, hb⟩; refine ⟨_, rfl, ?_⟩; replace HB := bS pY55 hb; (try clear hb); (try clear hb2); (try clear hk); (try clear hi)))
        go_ret
        exact ⟨by first | rfl | (simp [errW_none, errW_some] <;> rfl) | (simp [*, errW_none, errW_some] <;> rfl), pY55⟩
       ·rw [if_neg c13] at H
        have c13b0 : decide (t106 < 0) = false := decide_eq_false c13
        clear c13
        have H' := am H
        clear H
        try go_wp2
        replace HB := am (below_drew1 HB.1)
        have p101 : 0 ≤ (x5_1 : Int) := of_decide_eq_true (pY82)
        have q101 : x5_1 < (l0.length : Int) := of_decide_eq_true (pY82)
        obtain ⟨ad101, A101_1, c101_1, A101_2, c101_2, e101, hx101_0, hx101_1, hx101_2, hl101_1, hi101_1, hl101_2, hi101_2⟩ := at_T56 HR0.1 x5_1 p101 q101
        have hw101_2 := hx101_2
        have hw101_1 := hx101_1
        have hw101_0 := hx101_0
        cases e101
        replace hx101_0 := hX HB hx101_0
        replace hx101_1 := hX HB hx101_1
        replace hx101_2 := hX HB hx101_2
        have HR101_1 := am hi101_1
        have HC101_1 := am hl101_1
        clear hi101_1 hl101_1
        have HR101_2 := am hi101_2
        have HC101_2 := am hl101_2
        clear hi101_2 hl101_2
        replace p101 := eq_true p101
        replace q101 := eq_true q101
        refine sT [] 8 (uBx HB hw101_0 (uBx HB hw101_1 (uAx HB hw101_2))) (fun hHeld => ?_); refine with_tabW laws_heldShareBatchS.tab4 laws_heldShareBatchS.bits4 (fun HT_ HW_ => ?_)
        generalize wr.drew = w18 at HB HR101_1 HR101_2 hx101_0 hx101_1 hx101_2 hHeld ⊢
        refine pU 0 (some 12) ?_
        refine pU 1 (some 13) ?_
        refine pU 2 (some 14) ?_
        refine pU 3 (some 15) ?_
        refine pU 5 (some 17) ?_
        refine tK3 4 (some 16) ?_
        refine oN 6 (some 18) fun K hK => ?_
        refine goes_ Try.func87 (by kernel_rfl) rfl #[.int .i64 x1_1] (by rfl) rfl rfl (pY54) ?_
        with_reducible refine (laws_markText.calls k1 x1_1 t102 _ A5.out).mono ?_
        rintro e w19 ⟨rfl, hb⟩
        refine ⟨_, rfl, ?_⟩
        replace HB := bS pY55 hb
        (try clear hb)
        (try clear hb2)
        (try clear hk)
        (try clear hi)
        refine hK.out _ _ (uBx HB hw101_0 (uBx HB hw101_1 (uAx HB hw101_2))).1 (fun hHeld => ?_)
        clear hK K
        refine nM ?_
        refine pU 7 (some 19) ?_
        refine done_ (done_of HT_.out (by kernel_rfl)) ?_
        have p103 : 0 ≤ (x5_1 : Int) := of_decide_eq_true (pY82)
        have q103 : x5_1 < (l0.length : Int) := of_decide_eq_true (pY82)
        try clear hx101_0
        try clear hx101_1
        try clear hx101_2
        try clear hHeld
        obtain ⟨ad103, A103_1, c103_1, A103_2, c103_2, e103, hx103_0, hx103_1, hx103_2, hl103_1, hi103_1, hl103_2, hi103_2⟩ := at_T56 HR0.1 x5_1 p103 q103
        obtain rfl : ad101 = ad103 := (by injection e103)
        replace hx103_0 := hX HB hx103_0
        replace hx103_1 := hX HB hx103_1
        replace hx103_2 := hX HB hx103_2
        have HR103_1 := am hi103_1
        have HC103_1 := am hl103_1
        clear hi103_1 hl103_1
        have HR103_2 := am hi103_2
        have HC103_2 := am hl103_2
        clear hi103_2 hl103_2
        replace p103 := eq_true p103
        replace q103 := eq_true q103
        try go_wp2_with (first | ((with_reducible refine gate_callee (f := 41) rfl ?_); refine goesL_ (some 28) rfl rfl Try.func41 (by kernel_rfl) rfl #[.slice A103_1 ((rd_T56 l0 x5_1).f1).length c103_1, .int .i64 (wrap64 (x1_1 + 1))] rfl (pY54) ?_; (with_reducible refine (laws_heldStringS.calls k1 _ _ ((rd_T56 l0 x5_1).f1) (wrap64 (x1_1 + 1)) t104 _ ?side1 ?side2 A7.out).mono ?_); (case side1 => exact pC (Kd.C_below HR103_1.1 HB.1)); (case side2 => exact HC103_1.1); rintro e w20 ⟨rfl, hb⟩; refine ⟨_, rfl, ?_⟩; replace HB := bS pY55 hb; (try clear hb); (try clear hb2); (try clear hk); (try clear hi); have p105 : 0 ≤ (x5_1 : Int) := of_decide_eq_true (pY82); have q105 : x5_1 < (l0.length : Int) := of_decide_eq_true (pY82); obtain ⟨ad105, A105_1, c105_1, A105_2, c105_2, e105, hx105_0, hx105_1, hx105_2, hl105_1, hi105_1, hl105_2, hi105_2⟩ := at_T56 HR0.1 x5_1 p105 q105; obtain rfl : ad101 = ad105 := (by injection e105); replace hx105_0 := hX HB hx105_0; replace hx105_1 := hX HB hx105_1; replace hx105_2 := hX HB hx105_2; have HR105_1 := am hi105_1; have HC105_1 := am hl105_1; clear hi105_1 hl105_1; have HR105_2 := am hi105_2; have HC105_2 := am hl105_2; clear hi105_2 hl105_2; replace p105 := eq_true p105; replace q105 := eq_true q105) | ((with_reducible refine gate_callee (f := 41) rfl ?_); refine goesL_ (some 37) rfl rfl Try.func41 (by kernel_rfl) rfl #[.slice A105_2 ((rd_T56 l0 x5_1).f2).length c105_2, .int .i64 t104] rfl (pY54) ?_; (with_reducible refine (laws_heldStringS.calls k1 _ _ ((rd_T56 l0 x5_1).f2) t104 t106 _ ?side1 ?side2 A12.out).mono ?_); (case side1 => exact pC (Kd.C_below HR105_2.1 HB.1)); (case side2 => exact HC105_2.1); rintro e w21 ⟨rfl, hb⟩; refine ⟨_, rfl, ?_⟩; replace HB := bS pY55 hb; (try clear hb); (try clear hb2); (try clear hk); (try clear hi)))
        go_roundg k1
        case measure => have := HK1.out; omega
        case rel => exact ⟨(t106), (wrap64 (x5_1 + 1)), (pY83), (pY83), H', ⟨by have := HK1.out; omega⟩, ⟨pY55⟩⟩
     ·rw [if_neg c6] at H
      have c6b0 : (((rd_T56 l0 x5_1).f0).toList == t102.toList) = false := beq_eq_false_iff_ne.mpr c6
      have c6b1 : (((rd_T56 l0 x5_1).f0).toList != t102.toList) = true := bne_iff_ne.mpr c6
      obtain rfl := Option.some.inj H
      try go_wp2
      replace HB := am (below_drew1 HB.1)
      have p101 : 0 ≤ (x5_1 : Int) := of_decide_eq_true (pY82)
      have q101 : x5_1 < (l0.length : Int) := of_decide_eq_true (pY82)
      obtain ⟨ad101, A101_1, c101_1, A101_2, c101_2, e101, hx101_0, hx101_1, hx101_2, hl101_1, hi101_1, hl101_2, hi101_2⟩ := at_T56 HR0.1 x5_1 p101 q101
      have hw101_2 := hx101_2
      have hw101_1 := hx101_1
      have hw101_0 := hx101_0
      cases e101
      replace hx101_0 := hX HB hx101_0
      replace hx101_1 := hX HB hx101_1
      replace hx101_2 := hX HB hx101_2
      have HR101_1 := am hi101_1
      have HC101_1 := am hl101_1
      clear hi101_1 hl101_1
      have HR101_2 := am hi101_2
      have HC101_2 := am hl101_2
      clear hi101_2 hl101_2
      replace p101 := eq_true p101
      replace q101 := eq_true q101
      refine sT [] 8 (uBx HB hw101_0 (uBx HB hw101_1 (uAx HB hw101_2))) (fun hHeld => ?_); refine with_tabW laws_heldShareBatchS.tab4 laws_heldShareBatchS.bits4 (fun HT_ HW_ => ?_)
      generalize wr.drew = w22 at HB HR101_1 HR101_2 hx101_0 hx101_1 hx101_2 hHeld ⊢
      refine pU 0 (some 12) ?_
      refine pU 1 (some 13) ?_
      refine pU 2 (some 14) ?_
      refine pU 3 (some 15) ?_
      refine pU 5 (some 17) ?_
      refine tK3 4 (some 16) ?_
      refine oN 6 (some 18) fun K hK => ?_
      refine goes_ Try.func87 (by kernel_rfl) rfl #[.int .i64 x1_1] (by rfl) rfl rfl (pY54) ?_
      with_reducible refine (laws_markText.calls k1 x1_1 t102 _ A5.out).mono ?_
      rintro e w23 ⟨rfl, hb⟩
      refine ⟨_, rfl, ?_⟩
      replace HB := bS pY55 hb
      (try clear hb)
      (try clear hb2)
      (try clear hk)
      (try clear hi)
      refine hK.out _ _ (uBx HB hw101_0 (uBx HB hw101_1 (uAx HB hw101_2))).1 (fun hHeld => ?_)
      clear hK K
      refine nM ?_
      refine pU 7 (some 19) ?_
      refine done_ (done_of HT_.out (by kernel_rfl)) ?_
      try go_wp2
      go_ret
      exact ⟨by first | rfl | (simp [errW_none, errW_some] <;> rfl) | (simp [*, errW_none, errW_some] <;> rfl), pY55⟩
    ·rw [if_neg c4] at H
     exact absurd H (by simp)
   ·rw [if_neg c3] at H
    have c3b0 : decide (x5_1 < (l0.length : Int)) = false := decide_eq_false c3
    clear c3
    obtain rfl := Option.some.inj H
    go_wp2
    go_ret
    exact ⟨by first | rfl | (simp [errW_none, errW_some] <;> rfl) | (simp [*, errW_none, errW_some] <;> rfl), pY55⟩
end Go.Proofs.Ytaofjgnhapnndaa.Q
namespace Go.Proofs.Ytaofjgnhapnndaa.Q
open Go.RowKit Go.Proofs.YtaofjgnhapnndaaW.PrintWords Go.Proofs.YtaofjgnhapnndaaW.PrintLast Go.Proofs.YtaofjgnhapnndaaW.PrintMore
set_option linter.unusedVariables false
set_option linter.unusedSimpArgs false
def laws_heldShareBook.f (k : Nat) (l0_0 : List ByteArray) (l0_1 : List (S56)) (a1 : Int) : Option (Int) := (laws_heldStringS.f k l0_0 a1).bind fun t102 => (if t102 < 0 then (some (-1)) else ((laws_heldShareBatchS.f k l0_1 t102).bind fun t103 => (if t103 < 0 then (some (-1)) else (some t103))))
set_option maxHeartbeats 8000000 in
set_option maxRecDepth 100000 in
theorem laws_heldShareBook.calls (k : Nat) (A0_0 : Option Addr) (c0_0 : Nat) (l0_0 : List ByteArray) (A0_1 : Option Addr) (c0_1 : Nat) (l0_1 : List (S56)) (a1 : Int) (r : Int) (w : World) (hr0_0 : Kd.C Kd.string w A0_0 l0_0.length l0_0) (hc0_0 : l0_0.length ≤ c0_0) (hr0_1 : Kd.C k56 w A0_1 l0_1.length l0_1) (hc0_1 : l0_1.length ≤ c0_1) (h : laws_heldShareBook.f k l0_0 l0_1 a1 = some r) :
  Calls Try.prog 48 #[.agg #[.slice A0_0 l0_0.length c0_0, .slice A0_1 l0_1.length c0_1], .int .i64 a1] w fun e w' => e = .returned (.int .i64 r) ∧ Below w.heap.size w w' := by
 have hu31 := Try.underlying31
 have HR0_0 := am hr0_0
 have HC0_0 := am hc0_0
 clear hr0_0 hc0_0
 have HR0_1 := am hr0_1
 have HC0_1 := am hc0_1
 clear hr0_1 hc0_1
 have HB := am (Below.refl w.heap.size w)
 have H : ((laws_heldStringS.f k l0_0 a1).bind fun t102 => (if t102 < 0 then (some (-1)) else ((laws_heldShareBatchS.f k l0_1 t102).bind fun t103 => (if t103 < 0 then (some (-1)) else (some t103))))) = some r := h
 clear h
 obtain ⟨t102, A3, H⟩ := bd H
 by_cases c4 : t102 < 0
 ·rw [if_pos c4] at H
  have c4b0 : decide (t102 < 0) = true := decide_eq_true c4
  clear c4
  obtain rfl := Option.some.inj H
  go_enter Try.func48, Try.ntmps48
  go_wp2_with (first | (refine bX 2 #[.slice A0_0 l0_0.length c0_0, .slice A0_1 l0_1.length c0_1] 31 ?_; intro gb101 hg w5 hbox hb; have BK101 := am (hbox); have GW101 := am (pY52 : w.heap.size ≤ gb101); have GE101 := am (pY52 : w.heap.size ≤ gb101); replace HB := bS pY55 hb; clear hb hbox hg; obtain ⟨hcz6_0, hcz6_1, hfz6_0, hfz6_1⟩ := cz2 BK101) | ((with_reducible refine gate_callee (f := 41) rfl ?_); refine goesL_ (some 8) rfl rfl Try.func41 (by kernel_rfl) rfl #[.slice A0_0 l0_0.length c0_0, .int .i64 a1] rfl (pY54) ?_; (with_reducible refine (laws_heldStringS.calls k _ _ l0_0 a1 t102 _ ?side1 ?side2 A3.out).mono ?_); (case side1 => exact pC (Kd.C_below HR0_0.1 HB.1)); (case side2 => exact HC0_0.1); rintro e w7 ⟨rfl, hb⟩; refine ⟨_, rfl, ?_⟩; replace BK101 := bB pY58 hb; replace HB := bS pY53 hb; (try clear hb); (try clear hb2); (try clear hk); (try clear hi)))
  go_ret
  exact ⟨by first | rfl | (simp [errW_none, errW_some] <;> rfl) | (simp [*, errW_none, errW_some] <;> rfl), pY53⟩
 ·rw [if_neg c4] at H
  have c4b0 : decide (t102 < 0) = false := decide_eq_false c4
  clear c4
  obtain ⟨t103, A8, H⟩ := bd H
  by_cases c9 : t103 < 0
  ·rw [if_pos c9] at H
   have c9b0 : decide (t103 < 0) = true := decide_eq_true c9
   clear c9
   obtain rfl := Option.some.inj H
   go_enter Try.func48, Try.ntmps48
   go_wp2_with (first | (refine bX 2 #[.slice A0_0 l0_0.length c0_0, .slice A0_1 l0_1.length c0_1] 31 ?_; intro gb101 hg w10 hbox hb; have BK101 := am (hbox); have GW101 := am (pY52 : w.heap.size ≤ gb101); have GE101 := am (pY52 : w.heap.size ≤ gb101); replace HB := bS pY55 hb; clear hb hbox hg; obtain ⟨hcz11_0, hcz11_1, hfz11_0, hfz11_1⟩ := cz2 BK101) | ((with_reducible refine gate_callee (f := 41) rfl ?_); refine goesL_ (some 8) rfl rfl Try.func41 (by kernel_rfl) rfl #[.slice A0_0 l0_0.length c0_0, .int .i64 a1] rfl (pY54) ?_; (with_reducible refine (laws_heldStringS.calls k _ _ l0_0 a1 t102 _ ?side1 ?side2 A3.out).mono ?_); (case side1 => exact pC (Kd.C_below HR0_0.1 HB.1)); (case side2 => exact HC0_0.1); rintro e w12 ⟨rfl, hb⟩; refine ⟨_, rfl, ?_⟩; replace BK101 := bB pY58 hb; replace HB := bS pY53 hb; (try clear hb); (try clear hb2); (try clear hk); (try clear hi); obtain ⟨hcz13_0, hcz13_1, hfz13_0, hfz13_1⟩ := cz2 BK101) | ((with_reducible refine gate_callee (f := 92) rfl ?_); refine goesL_ (some 14) rfl rfl Try.func92 (by kernel_rfl) rfl #[.slice A0_1 l0_1.length c0_1, .int .i64 t102] rfl (pY54) ?_; (with_reducible refine (laws_heldShareBatchS.calls k _ _ l0_1 t102 t103 _ ?side1 ?side2 A8.out).mono ?_); (case side1 => exact pC (Kd.C_below HR0_1.1 HB.1)); (case side2 => exact HC0_1.1); rintro e w14 ⟨rfl, hb⟩; refine ⟨_, rfl, ?_⟩; replace BK101 := bB pY58 hb; replace HB := bS pY53 hb; (try clear hb); (try clear hb2); (try clear hk); (try clear hi)))
   go_ret
   exact ⟨by first | rfl | (simp [errW_none, errW_some] <;> rfl) | (simp [*, errW_none, errW_some] <;> rfl), pY53⟩
  ·rw [if_neg c9] at H
   have c9b0 : decide (t103 < 0) = false := decide_eq_false c9
   clear c9
   obtain rfl := Option.some.inj H
   go_enter Try.func48, Try.ntmps48
   go_wp2_with (first | (refine bX 2 #[.slice A0_0 l0_0.length c0_0, .slice A0_1 l0_1.length c0_1] 31 ?_; intro gb101 hg w15 hbox hb; have BK101 := am (hbox); have GW101 := am (pY52 : w.heap.size ≤ gb101); have GE101 := am (pY52 : w.heap.size ≤ gb101); replace HB := bS pY55 hb; clear hb hbox hg; obtain ⟨hcz16_0, hcz16_1, hfz16_0, hfz16_1⟩ := cz2 BK101) | ((with_reducible refine gate_callee (f := 41) rfl ?_); refine goesL_ (some 8) rfl rfl Try.func41 (by kernel_rfl) rfl #[.slice A0_0 l0_0.length c0_0, .int .i64 a1] rfl (pY54) ?_; (with_reducible refine (laws_heldStringS.calls k _ _ l0_0 a1 t102 _ ?side1 ?side2 A3.out).mono ?_); (case side1 => exact pC (Kd.C_below HR0_0.1 HB.1)); (case side2 => exact HC0_0.1); rintro e w17 ⟨rfl, hb⟩; refine ⟨_, rfl, ?_⟩; replace BK101 := bB pY58 hb; replace HB := bS pY53 hb; (try clear hb); (try clear hb2); (try clear hk); (try clear hi); obtain ⟨hcz18_0, hcz18_1, hfz18_0, hfz18_1⟩ := cz2 BK101) | ((with_reducible refine gate_callee (f := 92) rfl ?_); refine goesL_ (some 14) rfl rfl Try.func92 (by kernel_rfl) rfl #[.slice A0_1 l0_1.length c0_1, .int .i64 t102] rfl (pY54) ?_; (with_reducible refine (laws_heldShareBatchS.calls k _ _ l0_1 t102 t103 _ ?side1 ?side2 A8.out).mono ?_); (case side1 => exact pC (Kd.C_below HR0_1.1 HB.1)); (case side2 => exact HC0_1.1); rintro e w19 ⟨rfl, hb⟩; refine ⟨_, rfl, ?_⟩; replace BK101 := bB pY58 hb; replace HB := bS pY53 hb; (try clear hb); (try clear hb2); (try clear hk); (try clear hi)))
   go_ret
   exact ⟨by first | rfl | (simp [errW_none, errW_some] <;> rfl) | (simp [*, errW_none, errW_some] <;> rfl), pY53⟩
end Go.Proofs.Ytaofjgnhapnndaa.Q
namespace Go.Proofs.Ytaofjgnhapnndaa.Q
open Go.RowKit Go.Proofs.YtaofjgnhapnndaaW.PrintWords Go.Proofs.YtaofjgnhapnndaaW.PrintLast Go.Proofs.YtaofjgnhapnndaaW.PrintMore
set_option linter.unusedVariables false
set_option linter.unusedSimpArgs false
abbrev MB := S56
abbrev KB := k56
def BkS (w0 w : World) (lo hi : Nat) (v0 v1 : Value) (l0 : List ByteArray) (l1 : List MB) : Prop :=
  Kd.R Kd.string 9 w w0.heap.size (fun k => lo ≤ k ∧ k < hi) v0 l0 ∧ Kd.S KB 56 w w0.heap.size (fun k => (lo ≤ k ∧ k < hi) ∧ some k ≠ v0.ownBlock) v1 l1
def BkN (w0 w : World) (lo hi : Nat) (v0 v1 : Value) (l0 : List ByteArray) (l1 : List MB) : Prop :=
  Kd.R Kd.string 9 w w0.heap.size (fun k => lo ≤ k ∧ k < hi) v0 l0 ∧ Kd.N KB 56 w w0.heap.size (fun k => lo ≤ k ∧ k < hi) v1 l1
def RwS (w0 w : World) (lo hi : Nat) (v : Value) (l : List ByteArray) : Prop := Kd.R Kd.string 9 w w0.heap.size (fun k => lo ≤ k ∧ k < hi) v l
section
variable {w0 w w' : World} {lo hi n : Nat} {v0 v1 v : Value} {l0 l r1 : List ByteArray} {l1 r2 : List MB} {S : Nat → Prop}
theorem BkS.kept (h : BkS w0 w lo hi v0 v1 l0 l1) (hk : Kept w w' S) (hS : ∀ k, lo ≤ k → k < hi → ¬ S k) : BkS w0 w' lo hi v0 v1 l0 l1 :=
  ⟨Kd.R_kept h.1 hk (fun k e => hS k e.1 e.2), Kd.S_kept h.2 hk (fun k e => hS k e.1.1 e.1.2)⟩
theorem BkN.kept (h : BkN w0 w lo hi v0 v1 l0 l1) (hk : Kept w w' S) (hS : ∀ k, lo ≤ k → k < hi → ¬ S k) : BkN w0 w' lo hi v0 v1 l0 l1 :=
  ⟨Kd.R_kept h.1 hk (fun k e => hS k e.1 e.2), Kd.N_kept h.2 hk (fun k e => hS k e.1 e.2)⟩
theorem RwS.kept (h : RwS w0 w lo hi v l) (hk : Kept w w' S) (hS : ∀ k, lo ≤ k → k < hi → ¬ S k) : RwS w0 w' lo hi v l := Kd.R_kept h hk (fun k e => hS k e.1 e.2)
theorem BkS.made (ho0 : Kd.R Kd.string 9 w' w.heap.size (fun _ => True) v0 r1) (ho1 : Kd.S KB 56 w' w.heap.size (fun k => some k ≠ v0.ownBlock) v1 r2) (h0 : w0.heap.size ≤ n) (hn : n ≤ w.heap.size) : BkS w0 w' n w'.heap.size v0 v1 r1 r2 :=
  ⟨Kd.R_lower (Kd.R_mono (Kd.R_bound ho0) (fun k h => ⟨Nat.le_trans hn h.2.1, h.2.2.1⟩)) (Nat.le_trans h0 hn), Kd.S_lower (Kd.S_mono (Kd.S_bound ho1) (fun k h => ⟨⟨Nat.le_trans hn h.2.1, h.2.2.1⟩, h.1⟩)) (Nat.le_trans h0 hn)⟩
theorem BkN.made (ho0 : Kd.R Kd.string 9 w' w.heap.size (fun k_ => (w.heap.size ≤ k_)) v0 r1) (ho1 : Kd.N KB 56 w' w.heap.size (fun k_ => (w.heap.size ≤ k_) ∧ some k_ ≠ (v0 : Value).ownBlock) v1 r2) (h0 : w0.heap.size ≤ n) (hn : n ≤ w.heap.size) : BkN w0 w' n w'.heap.size v0 v1 r1 r2 :=
  ⟨Kd.R_lower (Kd.R_mono (Kd.R_bound ho0) (fun k h => ⟨Nat.le_trans hn h.2.1, h.2.2.1⟩)) (Nat.le_trans h0 hn), Kd.N_lower (Kd.N_mono (Kd.N_bound ho1) (fun k h => ⟨Nat.le_trans hn h.1.1, h.2⟩)) (Nat.le_trans h0 hn)⟩
theorem RwS.made (ho0 : Kd.R Kd.string 9 w' w.heap.size (fun _ => True) v l) (h0 : w0.heap.size ≤ n) (hn : n ≤ w.heap.size) : RwS w0 w' n w'.heap.size v l :=
  Kd.R_lower (Kd.R_mono (Kd.R_bound ho0) (fun k h => ⟨Nat.le_trans hn h.2.1, h.2.2.1⟩)) (Nat.le_trans h0 hn)
theorem BkS.mark {k : Nat} {a q : Int} {m0 : List ByteArray} {m1 : List MB} (h : BkS w0 w lo hi v0 v1 l0 l1) (hB : Below w0.heap.size w0 w) (hm : laws_markShareBook.fB k l0 l1 a = some (q, m0, m1)) :
    Calls Try.prog 39 #[.agg #[v0, v1], .int .i64 a] w fun e w' => e = .returned (.int .i64 q) ∧ BkS w0 w' lo hi v0 v1 m0 m1 ∧ Below w0.heap.size w0 w' ∧ Kept w w' (fun k => lo ≤ k ∧ k < hi) := by
  refine (laws_markShareBook.callsB k (fun k => some k = v0.ownBlock) (fun k => (lo ≤ k ∧ k < hi) ∧ some k ≠ v0.ownBlock) v0 v1 l0 l1 a q m0 m1 w0 w hB (Kd.R_tight rfl h.1) h.2 (fun k hk e => hk.2 e) hm).mono ?_
  rintro e w' ⟨he, hr, hs, hb, hk⟩
  exact ⟨he, ⟨Kd.R_mono hr (fun k e => h.1.1 k e.symm), hs⟩, hb, Kept.mono hk (fun k hk => hk.elim (fun e => h.1.1 k e.symm) (fun e => e.1))⟩
theorem RwS.mark {k : Nat} {a q : Int} {m0 : List ByteArray} (h : RwS w0 w lo hi v l) (hB : Below w0.heap.size w0 w) (hm : laws_markStringS.f k l a = some (q, m0)) :
    Calls Try.prog 40 #[v, .int .i64 a] w fun e w' => e = .returned (.int .i64 q) ∧ RwS w0 w' lo hi v m0 ∧ Below w0.heap.size w0 w' ∧ Kept w w' (fun k => lo ≤ k ∧ k < hi) := by
  refine (laws_markStringS.calls k (fun k => some k = v.ownBlock) v l a q m0 w0 w hB (Kd.R_tight rfl h) hm).mono ?_
  rintro e w' ⟨he, hr, hb, hk⟩
  exact ⟨he, Kd.R_reok rfl hr (fun k e => h.1 k e), hb, Kept.mono hk (fun k e => h.1 k e.symm)⟩
theorem BkS.held {k : Nat} {a q : Int} (h : BkS w0 w lo hi v0 v1 l0 l1) (hm : laws_heldShareBook.f k l0 l1 a = some q) :
    Calls Try.prog 48 #[.agg #[v0, v1], .int .i64 a] w fun e w' => e = .returned (.int .i64 q) ∧ Below w.heap.size w w' := by
  obtain ⟨A0, c0, rfl, hc0, hr0⟩ := Kd.R_reads h.1
  obtain ⟨A1, c1, rfl, hc1, hr1⟩ := Kd.S_reads h.2
  exact laws_heldShareBook.calls k _ _ _ _ _ _ a q w hr0 hc0 hr1 hc1 hm
theorem BkS.eqN {k : Nat} {r : Bool} {lo2 hi2 : Nat} {u0 u1 : Value} {x0 : List ByteArray} {x1 : List MB} (h : BkS w0 w lo hi v0 v1 l0 l1) (h2 : BkN w0 w lo2 hi2 u0 u1 x0 x1) (hm : laws_eqShareBook.f k l0 l1 x0 x1 = some r) :
    Calls Try.prog 25 #[.agg #[v0, v1], .agg #[u0, u1]] w fun e w' => e = .returned (.bool r) ∧ Below w.heap.size w w' := by
  obtain ⟨A0, c0, rfl, hc0, hr0⟩ := Kd.R_reads h.1
  obtain ⟨A1, c1, rfl, hc1, hr1⟩ := Kd.S_reads h.2
  obtain ⟨A2, c2, rfl, hc2, hr2⟩ := Kd.R_reads h2.1
  obtain ⟨A3, c3, rfl, hc3, hr3⟩ := Kd.N_reads h2.2
  exact laws_eqShareBook.calls k _ _ _ _ _ _ _ _ _ _ _ _ r w hr0 hc0 hr1 hc1 hr2 hc2 hr3 hc3 hm
theorem BkS.eqS {k : Nat} {r : Bool} {lo2 hi2 : Nat} {u0 u1 : Value} {x0 : List ByteArray} {x1 : List MB} (h : BkS w0 w lo hi v0 v1 l0 l1) (h2 : BkS w0 w lo2 hi2 u0 u1 x0 x1) (hm : laws_eqShareBook.f k l0 l1 x0 x1 = some r) :
    Calls Try.prog 25 #[.agg #[v0, v1], .agg #[u0, u1]] w fun e w' => e = .returned (.bool r) ∧ Below w.heap.size w w' := by
  obtain ⟨A0, c0, rfl, hc0, hr0⟩ := Kd.R_reads h.1
  obtain ⟨A1, c1, rfl, hc1, hr1⟩ := Kd.S_reads h.2
  obtain ⟨A2, c2, rfl, hc2, hr2⟩ := Kd.R_reads h2.1
  obtain ⟨A3, c3, rfl, hc3, hr3⟩ := Kd.S_reads h2.2
  exact laws_eqShareBook.calls k _ _ _ _ _ _ _ _ _ _ _ _ r w hr0 hc0 hr1 hc1 hr2 hc2 hr3 hc3 hm
theorem RwS.eq {k : Nat} {r : Bool} {lo2 hi2 : Nat} {u : Value} {x : List ByteArray} (h : RwS w0 w lo hi v l) (h2 : RwS w0 w lo2 hi2 u x) (hm : laws_eqStringS.f k l x = some r) :
    Calls Try.prog 34 #[v, u] w fun e w' => e = .returned (.bool r) ∧ Below w.heap.size w w' := by
  obtain ⟨A0, c0, rfl, hc0, hr0⟩ := Kd.R_reads h
  obtain ⟨A2, c2, rfl, hc2, hr2⟩ := Kd.R_reads h2
  refine (laws_eqStringS.calls k _ _ _ _ _ _ r w hr0 hc0 hr2 hc2 hm).mono ?_
  rintro e w' ⟨he, nd, rfl⟩
  exact ⟨he, pw_below_drewN (Below.refl _ _) nd⟩
theorem BkS.slices (h : BkS w0 w lo hi v0 v1 l0 l1) : ∃ A0 c0 A1 c1, v0 = .slice A0 l0.length c0 ∧ v1 = .slice A1 l1.length c1 := by
  obtain ⟨A0, c0, e0⟩ := Kd.R_slice h.1
  obtain ⟨A1, c1, e1⟩ := Kd.S_slice h.2
  exact ⟨A0, c0, A1, c1, e0, e1⟩
theorem BkN.slices (h : BkN w0 w lo hi v0 v1 l0 l1) : ∃ A0 c0 A1 c1, v0 = .slice A0 l0.length c0 ∧ v1 = .slice A1 l1.length c1 := by
  obtain ⟨A0, c0, e0⟩ := Kd.R_slice h.1
  obtain ⟨A1, c1, e1⟩ := Kd.N_slice h.2
  exact ⟨A0, c0, A1, c1, e0, e1⟩
theorem RwS.slices (h : RwS w0 w lo hi v l) : ∃ A0 c0, v = .slice A0 l.length c0 := Kd.R_slice h
end
theorem ite_some {α : Type} {c : Prop} [Decidable c] {a : Option α} {b : α} (h : (if c then a else none) = some b) : c ∧ a = some b := by
  by_cases hc : c
  · rw [if_pos hc] at h; exact ⟨hc, h⟩
  · rw [if_neg hc] at h; cases h
theorem Kept.noth {w w' : World} (h : Below w.heap.size w w') : Kept w w' (fun _ => False) := Kept.of_below h _
theorem Kept.two {w : World} {g : Nat} (a b : Nat) (u v : Value) : Kept w ((w.setCell ⟨g, a, none⟩ u).setCell ⟨g, b, none⟩ v) (fun k => k = g) :=
  Kept.setCell (p := ⟨g, b, none⟩) (Kept.setCell (p := ⟨g, a, none⟩) (Kept.refl w (fun k => k = g)) (Or.inl rfl) u) (Or.inl rfl) v
end Go.Proofs.Ytaofjgnhapnndaa.Q
namespace Go.Proofs.Ytaofjgnhapnndaa.Q
open Go.RowKit Go.Proofs.YtaofjgnhapnndaaW.PrintWords Go.Proofs.YtaofjgnhapnndaaW.PrintLast Go.Proofs.YtaofjgnhapnndaaW.PrintMore
set_option linter.unusedVariables false
set_option linter.unusedSimpArgs false
def laws_szStringS.l0 : Nat → List ByteArray → Int → Int → Option (Int)
 | 0, _, _, _ => none
 | k + 1, x0, x1, x5 => if x5 < (x0.length : Int) then (if 0 ≤ x5 then (if (wrap64 (x1 - ((rdOf ByteArray.empty x0 x5).size : Int))) < 0 then (some (-1)) else (laws_szStringS.l0 k x0 (wrap64 (x1 - ((rdOf ByteArray.empty x0 x5).size : Int))) (wrap64 (x5 + 1)))) else (none)) else (some x1)
def laws_szStringS.f (k : Nat) (l0 : List ByteArray) (a1 : Int) : Option (Int) := if (wrap64 (a1 - (l0.length : Int))) < 0 then (some (-1)) else (laws_szStringS.l0 k l0 (wrap64 (a1 - (l0.length : Int))) 0)
set_option maxHeartbeats 8000000 in
set_option maxRecDepth 100000 in
theorem laws_szStringS.calls (k : Nat) (A0 : Option Addr) (c0 : Nat) (l0 : List ByteArray) (a1 : Int) (r : Int) (w : World) (hr0 : Kd.C Kd.string w A0 l0.length l0) (hc0 : l0.length ≤ c0) (h : laws_szStringS.f k l0 a1 = some r) :
  Calls Try.prog 30 #[.slice A0 l0.length c0, .int .i64 a1] w fun e w' => e = .returned (.int .i64 r) ∧ Drawn0 w w' := by
 have HR0 := am hr0
 have HC0 := am hc0
 clear hr0 hc0
 have H : (if (wrap64 (a1 - (l0.length : Int))) < 0 then (some (-1)) else (laws_szStringS.l0 k l0 (wrap64 (a1 - (l0.length : Int))) 0)) = some r := h
 clear h
 by_cases c3 : (wrap64 (a1 - (l0.length : Int))) < 0
 ·rw [if_pos c3] at H
  have c3b0 : decide ((wrap64 (a1 - (l0.length : Int))) < 0) = true := decide_eq_true c3
  clear c3
  obtain rfl := Option.some.inj H
  go_enter Try.func30, Try.ntmps30
  go_wp2
  go_ret
  exact ⟨by first | rfl | (simp; done) | (simp [*]; done), pY80⟩
 ·rw [if_neg c3] at H
  have c3b0 : decide ((wrap64 (a1 - (l0.length : Int))) < 0) = false := decide_eq_false c3
  clear c3
  have H' := am H
  clear H
  go_enter Try.func30, Try.ntmps30
  go_wp2
  go_loopg [1, 5] k (fun kq v1 v5 w' => ∃ (x1_1 : Int) (x5_1 : Int), v1 = .int .i64 x1_1 ∧ v5 = .int .i64 x5_1 ∧ Aside0 (laws_szStringS.l0 kq l0 x1_1 x5_1 = some r) ∧ Aside0 (kq ≤ k) ∧ Drawn0 w w')
  case atStart => exact ⟨(wrap64 (a1 - (l0.length : Int))), (0), (pY83), (pY83), H', ⟨Nat.le_refl _⟩, pY80⟩
  case round =>
   clear H'
   try clear c3
   try clear c3b0
   obtain ⟨x1_1, x5_1, rfl, rfl, HA, HK1, ⟨m1, rfl⟩⟩ := hrel
   cases gk with
   | zero => exact absurd HA.out (by simp [laws_szStringS.l0])
   | succ k1 =>
    have H := HA.out
    clear HA
    simp only [laws_szStringS.l0] at H
    by_cases c4 : x5_1 < (l0.length : Int)
    ·rw [if_pos c4] at H
     have c4b0 : decide (x5_1 < (l0.length : Int)) = true := decide_eq_true c4
     clear c4
     by_cases c5 : 0 ≤ x5_1
     ·rw [if_pos c5] at H
      have c5b0 : decide (0 ≤ x5_1) = true := decide_eq_true c5
      clear c5
      by_cases c6 : (wrap64 (x1_1 - ((rdOf ByteArray.empty l0 x5_1).size : Int))) < 0
      ·rw [if_pos c6] at H
       have c6b0 : decide ((wrap64 (x1_1 - ((rdOf ByteArray.empty l0 x5_1).size : Int))) < 0) = true := decide_eq_true c6
       clear c6
       obtain rfl := Option.some.inj H
       have p101 : 0 ≤ (x5_1 : Int) := of_decide_eq_true (pY82)
       have q101 : x5_1 < (l0.length : Int) := of_decide_eq_true (pY82)
       obtain ⟨ad101, e101, hx101_0⟩ := Kd.at_string HR0.1 x5_1 p101 q101
       cases e101
       replace p101 := eq_true p101
       replace q101 := eq_true q101
       go_wp2
       go_ret
       exact ⟨by first | rfl | (simp; done) | (simp [*]; done), pY80⟩
      ·rw [if_neg c6] at H
       have c6b0 : decide ((wrap64 (x1_1 - ((rdOf ByteArray.empty l0 x5_1).size : Int))) < 0) = false := decide_eq_false c6
       clear c6
       have H' := am H
       clear H
       have p101 : 0 ≤ (x5_1 : Int) := of_decide_eq_true (pY82)
       have q101 : x5_1 < (l0.length : Int) := of_decide_eq_true (pY82)
       obtain ⟨ad101, e101, hx101_0⟩ := Kd.at_string HR0.1 x5_1 p101 q101
       cases e101
       replace p101 := eq_true p101
       replace q101 := eq_true q101
       go_wp2
       go_roundg k1
       case measure => have := HK1.out; omega
       case rel => exact ⟨(wrap64 (x1_1 - ((rdOf ByteArray.empty l0 x5_1).size : Int))), (wrap64 (x5_1 + 1)), (pY83), (pY83), H', ⟨by have := HK1.out; omega⟩, pY80⟩
     ·rw [if_neg c5] at H
      exact absurd H (by simp)
    ·rw [if_neg c4] at H
     have c4b0 : decide (x5_1 < (l0.length : Int)) = false := decide_eq_false c4
     clear c4
     obtain rfl := Option.some.inj H
     go_wp2
     go_ret
     exact ⟨by first | rfl | (simp; done) | (simp [*]; done), pY80⟩
end Go.Proofs.Ytaofjgnhapnndaa.Q
namespace Go.Proofs.Ytaofjgnhapnndaa.Q
open Go.RowKit Go.Proofs.YtaofjgnhapnndaaW.PrintWords Go.Proofs.YtaofjgnhapnndaaW.PrintLast Go.Proofs.YtaofjgnhapnndaaW.PrintMore
set_option linter.unusedVariables false
set_option linter.unusedSimpArgs false
def laws_szShareBatch.f (k : Nat) (a0_0 : ByteArray) (l0_1 : List ByteArray) (l0_2 : List ByteArray) (a1 : Int) : Option (Int) := if (wrap64 (a1 - (a0_0.size : Int))) < 0 then (some (-1)) else ((laws_szStringS.f k l0_1 (wrap64 (a1 - (a0_0.size : Int)))).bind fun t102 => (if t102 < 0 then (some (-1)) else ((laws_szStringS.f k l0_2 t102).bind fun t103 => (if t103 < 0 then (some (-1)) else (some t103)))))
set_option maxHeartbeats 8000000 in
set_option maxRecDepth 100000 in
theorem laws_szShareBatch.calls (k : Nat) (a0_0 : ByteArray) (A0_1 : Option Addr) (c0_1 : Nat) (l0_1 : List ByteArray) (A0_2 : Option Addr) (c0_2 : Nat) (l0_2 : List ByteArray) (a1 : Int) (r : Int) (w : World) (hr0_1 : Kd.C Kd.string w A0_1 l0_1.length l0_1) (hc0_1 : l0_1.length ≤ c0_1) (hr0_2 : Kd.C Kd.string w A0_2 l0_2.length l0_2) (hc0_2 : l0_2.length ≤ c0_2) (h : laws_szShareBatch.f k a0_0 l0_1 l0_2 a1 = some r) :
  Calls Try.prog 110 #[.agg #[.string a0_0, .slice A0_1 l0_1.length c0_1, .slice A0_2 l0_2.length c0_2], .int .i64 a1] w fun e w' => e = .returned (.int .i64 r) ∧ Below w.heap.size w w' := by
 have hu94 := Try.underlying94
 have HR0_1 := am hr0_1
 have HC0_1 := am hc0_1
 clear hr0_1 hc0_1
 have HR0_2 := am hr0_2
 have HC0_2 := am hc0_2
 clear hr0_2 hc0_2
 have HB := am (Below.refl w.heap.size w)
 have H : (if (wrap64 (a1 - (a0_0.size : Int))) < 0 then (some (-1)) else ((laws_szStringS.f k l0_1 (wrap64 (a1 - (a0_0.size : Int)))).bind fun t102 => (if t102 < 0 then (some (-1)) else ((laws_szStringS.f k l0_2 t102).bind fun t103 => (if t103 < 0 then (some (-1)) else (some t103)))))) = some r := h
 clear h
 by_cases c3 : (wrap64 (a1 - (a0_0.size : Int))) < 0
 ·rw [if_pos c3] at H
  have c3b0 : decide ((wrap64 (a1 - (a0_0.size : Int))) < 0) = true := decide_eq_true c3
  clear c3
  obtain rfl := Option.some.inj H
  go_enter Try.func110, Try.ntmps110
  go_wp2_with (first | (refine bX 2 #[.string a0_0, .slice A0_1 l0_1.length c0_1, .slice A0_2 l0_2.length c0_2] 94 ?_; intro gb101 hg w4 hbox hb; have BK101 := am (hbox); have GW101 := am (pY52 : w.heap.size ≤ gb101); have GE101 := am (pY52 : w.heap.size ≤ gb101); replace HB := bS pY55 hb; clear hb hbox hg; obtain ⟨hcz5_0, hcz5_1, hcz5_2, hfz5_0, hfz5_1, hfz5_2⟩ := cz3 BK101))
  go_ret
  exact ⟨by first | rfl | (simp [errW_none, errW_some] <;> rfl) | (simp [*, errW_none, errW_some] <;> rfl), pY53⟩
 ·rw [if_neg c3] at H
  have c3b0 : decide ((wrap64 (a1 - (a0_0.size : Int))) < 0) = false := decide_eq_false c3
  clear c3
  obtain ⟨t102, A6, H⟩ := bd H
  by_cases c7 : t102 < 0
  ·rw [if_pos c7] at H
   have c7b0 : decide (t102 < 0) = true := decide_eq_true c7
   clear c7
   obtain rfl := Option.some.inj H
   go_enter Try.func110, Try.ntmps110
   go_wp2_with (first | (refine bX 2 #[.string a0_0, .slice A0_1 l0_1.length c0_1, .slice A0_2 l0_2.length c0_2] 94 ?_; intro gb101 hg w8 hbox hb; have BK101 := am (hbox); have GW101 := am (pY52 : w.heap.size ≤ gb101); have GE101 := am (pY52 : w.heap.size ≤ gb101); replace HB := bS pY55 hb; clear hb hbox hg; obtain ⟨hcz9_0, hcz9_1, hcz9_2, hfz9_0, hfz9_1, hfz9_2⟩ := cz3 BK101) | ((with_reducible refine gate_callee (f := 30) rfl ?_); refine goesL_ (some 15) rfl rfl Try.func30 (by kernel_rfl) rfl #[.slice A0_1 l0_1.length c0_1, .int .i64 (wrap64 (a1 - (a0_0.size : Int)))] rfl (pY54) ?_; (with_reducible refine (laws_szStringS.calls k _ _ l0_1 (wrap64 (a1 - (a0_0.size : Int))) t102 _ ?side1 ?side2 A6.out).mono ?_); (case side1 => exact pC (Kd.C_below HR0_1.1 HB.1)); (case side2 => exact HC0_1.1); rintro e w' ⟨rfl, ⟨nd, rfl⟩⟩; refine ⟨_, rfl, ?_⟩))
   go_ret
   exact ⟨by first | rfl | (simp [errW_none, errW_some] <;> rfl) | (simp [*, errW_none, errW_some] <;> rfl), pY53⟩
  ·rw [if_neg c7] at H
   have c7b0 : decide (t102 < 0) = false := decide_eq_false c7
   clear c7
   obtain ⟨t103, A10, H⟩ := bd H
   by_cases c11 : t103 < 0
   ·rw [if_pos c11] at H
    have c11b0 : decide (t103 < 0) = true := decide_eq_true c11
    clear c11
    obtain rfl := Option.some.inj H
    go_enter Try.func110, Try.ntmps110
    go_wp2_with (first | (refine bX 2 #[.string a0_0, .slice A0_1 l0_1.length c0_1, .slice A0_2 l0_2.length c0_2] 94 ?_; intro gb101 hg w12 hbox hb; have BK101 := am (hbox); have GW101 := am (pY52 : w.heap.size ≤ gb101); have GE101 := am (pY52 : w.heap.size ≤ gb101); replace HB := bS pY55 hb; clear hb hbox hg; obtain ⟨hcz13_0, hcz13_1, hcz13_2, hfz13_0, hfz13_1, hfz13_2⟩ := cz3 BK101) | ((with_reducible refine gate_callee (f := 30) rfl ?_); refine goesL_ (some 15) rfl rfl Try.func30 (by kernel_rfl) rfl #[.slice A0_1 l0_1.length c0_1, .int .i64 (wrap64 (a1 - (a0_0.size : Int)))] rfl (pY54) ?_; (with_reducible refine (laws_szStringS.calls k _ _ l0_1 (wrap64 (a1 - (a0_0.size : Int))) t102 _ ?side1 ?side2 A6.out).mono ?_); (case side1 => exact pC (Kd.C_below HR0_1.1 HB.1)); (case side2 => exact HC0_1.1); rintro e w' ⟨rfl, ⟨nd, rfl⟩⟩; refine ⟨_, rfl, ?_⟩) | ((with_reducible refine gate_callee (f := 30) rfl ?_); refine goesL_ (some 21) rfl rfl Try.func30 (by kernel_rfl) rfl #[.slice A0_2 l0_2.length c0_2, .int .i64 t102] rfl (pY54) ?_; (with_reducible refine (laws_szStringS.calls k _ _ l0_2 t102 t103 _ ?side1 ?side2 A10.out).mono ?_); (case side1 => exact pC (Kd.C_below HR0_2.1 (pY53))); (case side2 => exact HC0_2.1); rintro e w' ⟨rfl, ⟨nd, rfl⟩⟩; refine ⟨_, rfl, ?_⟩))
    go_ret
    exact ⟨by first | rfl | (simp [errW_none, errW_some] <;> rfl) | (simp [*, errW_none, errW_some] <;> rfl), pY53⟩
   ·rw [if_neg c11] at H
    have c11b0 : decide (t103 < 0) = false := decide_eq_false c11
    clear c11
    obtain rfl := Option.some.inj H
    go_enter Try.func110, Try.ntmps110
    go_wp2_with (first | (refine bX 2 #[.string a0_0, .slice A0_1 l0_1.length c0_1, .slice A0_2 l0_2.length c0_2] 94 ?_; intro gb101 hg w14 hbox hb; have BK101 := am (hbox); have GW101 := am (pY52 : w.heap.size ≤ gb101); have GE101 := am (pY52 : w.heap.size ≤ gb101); replace HB := bS pY55 hb; clear hb hbox hg; obtain ⟨hcz15_0, hcz15_1, hcz15_2, hfz15_0, hfz15_1, hfz15_2⟩ := cz3 BK101) | ((with_reducible refine gate_callee (f := 30) rfl ?_); refine goesL_ (some 15) rfl rfl Try.func30 (by kernel_rfl) rfl #[.slice A0_1 l0_1.length c0_1, .int .i64 (wrap64 (a1 - (a0_0.size : Int)))] rfl (pY54) ?_; (with_reducible refine (laws_szStringS.calls k _ _ l0_1 (wrap64 (a1 - (a0_0.size : Int))) t102 _ ?side1 ?side2 A6.out).mono ?_); (case side1 => exact pC (Kd.C_below HR0_1.1 HB.1)); (case side2 => exact HC0_1.1); rintro e w' ⟨rfl, ⟨nd, rfl⟩⟩; refine ⟨_, rfl, ?_⟩) | ((with_reducible refine gate_callee (f := 30) rfl ?_); refine goesL_ (some 21) rfl rfl Try.func30 (by kernel_rfl) rfl #[.slice A0_2 l0_2.length c0_2, .int .i64 t102] rfl (pY54) ?_; (with_reducible refine (laws_szStringS.calls k _ _ l0_2 t102 t103 _ ?side1 ?side2 A10.out).mono ?_); (case side1 => exact pC (Kd.C_below HR0_2.1 (pY53))); (case side2 => exact HC0_2.1); rintro e w' ⟨rfl, ⟨nd, rfl⟩⟩; refine ⟨_, rfl, ?_⟩))
    go_ret
    exact ⟨by first | rfl | (simp [errW_none, errW_some] <;> rfl) | (simp [*, errW_none, errW_some] <;> rfl), pY53⟩
end Go.Proofs.Ytaofjgnhapnndaa.Q
namespace Go.Proofs.Ytaofjgnhapnndaa.Q
open Go.RowKit Go.Proofs.YtaofjgnhapnndaaW.PrintWords Go.Proofs.YtaofjgnhapnndaaW.PrintLast Go.Proofs.YtaofjgnhapnndaaW.PrintMore
set_option linter.unusedVariables false
set_option linter.unusedSimpArgs false
def laws_szShareBatchS.l0 : Nat → List (S94) → Int → Int → Option (Int)
 | 0, _, _, _ => none
 | k + 1, x0, x1, x5 => if x5 < (x0.length : Int) then (if 0 ≤ x5 then ((laws_szShareBatch.f k ((rd_T94 x0 x5).f0) ((rd_T94 x0 x5).f1) ((rd_T94 x0 x5).f2) x1).bind fun t102 => (if t102 < 0 then (some (-1)) else (laws_szShareBatchS.l0 k x0 t102 (wrap64 (x5 + 1))))) else (none)) else (some x1)
def laws_szShareBatchS.f (k : Nat) (l0 : List (S94)) (a1 : Int) : Option (Int) := if (wrap64 (a1 - (l0.length : Int))) < 0 then (some (-1)) else (laws_szShareBatchS.l0 k l0 (wrap64 (a1 - (l0.length : Int))) 0)
set_option maxHeartbeats 8000000 in
set_option maxRecDepth 100000 in
theorem laws_szShareBatchS.calls (k : Nat) (A0 : Option Addr) (c0 : Nat) (l0 : List (S94)) (a1 : Int) (r : Int) (w : World) (hr0 : Kd.C k94 w A0 l0.length l0) (hc0 : l0.length ≤ c0) (h : laws_szShareBatchS.f k l0 a1 = some r) :
  Calls Try.prog 68 #[.slice A0 l0.length c0, .int .i64 a1] w fun e w' => e = .returned (.int .i64 r) ∧ Below w.heap.size w w' := by
 have hu94 := Try.underlying94
 have HR0 := am hr0
 have HC0 := am hc0
 clear hr0 hc0
 have HB := am (Below.refl w.heap.size w)
 have H : (if (wrap64 (a1 - (l0.length : Int))) < 0 then (some (-1)) else (laws_szShareBatchS.l0 k l0 (wrap64 (a1 - (l0.length : Int))) 0)) = some r := h
 clear h
 by_cases c3 : (wrap64 (a1 - (l0.length : Int))) < 0
 ·rw [if_pos c3] at H
  have c3b0 : decide ((wrap64 (a1 - (l0.length : Int))) < 0) = true := decide_eq_true c3
  clear c3
  obtain rfl := Option.some.inj H
  go_enter Try.func68, Try.ntmps68
  go_wp2
  go_ret
  exact ⟨by first | rfl | (simp [errW_none, errW_some] <;> rfl) | (simp [*, errW_none, errW_some] <;> rfl), pY55⟩
 ·rw [if_neg c3] at H
  have c3b0 : decide ((wrap64 (a1 - (l0.length : Int))) < 0) = false := decide_eq_false c3
  clear c3
  have H' := am H
  clear H
  go_enter Try.func68, Try.ntmps68
  go_wp2
  go_loopg [1, 5] k (fun kq v1 v5 w' => ∃ (x1_1 : Int) (x5_1 : Int), v1 = .int .i64 x1_1 ∧ v5 = .int .i64 x5_1 ∧ Aside0 (laws_szShareBatchS.l0 kq l0 x1_1 x5_1 = some r) ∧ Aside0 (kq ≤ k) ∧ Aside0 (Below w.heap.size w w'))
  case atStart => exact ⟨(wrap64 (a1 - (l0.length : Int))), (0), (pY83), (pY83), H', ⟨Nat.le_refl _⟩, ⟨pY55⟩⟩
  case round =>
   clear H'
   try clear c3
   try clear c3b0
   obtain ⟨x1_1, x5_1, rfl, rfl, HA, HK1, HB⟩ := hrel
   cases gk with
   | zero => exact absurd HA.out (by simp [laws_szShareBatchS.l0])
   | succ k1 =>
    have H := HA.out
    clear HA
    simp only [laws_szShareBatchS.l0] at H
    by_cases c4 : x5_1 < (l0.length : Int)
    ·rw [if_pos c4] at H
     have c4b0 : decide (x5_1 < (l0.length : Int)) = true := decide_eq_true c4
     clear c4
     by_cases c5 : 0 ≤ x5_1
     ·rw [if_pos c5] at H
      have c5b0 : decide (0 ≤ x5_1) = true := decide_eq_true c5
      clear c5
      obtain ⟨t102, A6, H⟩ := bd H
      by_cases c7 : t102 < 0
      ·rw [if_pos c7] at H
       have c7b0 : decide (t102 < 0) = true := decide_eq_true c7
       clear c7
       obtain rfl := Option.some.inj H
       have p101 : 0 ≤ (x5_1 : Int) := of_decide_eq_true (pY82)
       have q101 : x5_1 < (l0.length : Int) := of_decide_eq_true (pY82)
       obtain ⟨ad101, A101_1, c101_1, A101_2, c101_2, e101, hx101_0, hx101_1, hx101_2, hl101_1, hi101_1, hl101_2, hi101_2⟩ := at_T94 HR0.1 x5_1 p101 q101
       cases e101
       replace hx101_0 := hX HB hx101_0
       replace hx101_1 := hX HB hx101_1
       replace hx101_2 := hX HB hx101_2
       have HR101_1 := am hi101_1
       have HC101_1 := am hl101_1
       clear hi101_1 hl101_1
       have HR101_2 := am hi101_2
       have HC101_2 := am hl101_2
       clear hi101_2 hl101_2
       replace p101 := eq_true p101
       replace q101 := eq_true q101
       go_wp2_with (first | ((with_reducible refine gate_callee (f := 110) rfl ?_); refine goesL_ (some 23) rfl rfl Try.func110 (by kernel_rfl) rfl #[.agg #[.string ((rd_T94 l0 x5_1).f0), .slice A101_1 ((rd_T94 l0 x5_1).f1).length c101_1, .slice A101_2 ((rd_T94 l0 x5_1).f2).length c101_2], .int .i64 x1_1] rfl (pY54) ?_; (with_reducible refine (laws_szShareBatch.calls k1 ((rd_T94 l0 x5_1).f0) _ _ ((rd_T94 l0 x5_1).f1) _ _ ((rd_T94 l0 x5_1).f2) x1_1 t102 _ ?side1 ?side2 ?side3 ?side4 A6.out).mono ?_); (case side1 => exact pC (Kd.C_below HR101_1.1 HB.1)); (case side2 => exact HC101_1.1); (case side3 => exact pC (Kd.C_below HR101_2.1 HB.1)); (case side4 => exact HC101_2.1); rintro e w8 ⟨rfl, hb⟩; refine ⟨_, rfl, ?_⟩; replace HB := bS pY55 hb; (try clear hb); (try clear hb2); (try clear hk); (try clear hi)))
       go_ret
       exact ⟨by first | rfl | (simp [errW_none, errW_some] <;> rfl) | (simp [*, errW_none, errW_some] <;> rfl), pY55⟩
      ·rw [if_neg c7] at H
       have c7b0 : decide (t102 < 0) = false := decide_eq_false c7
       clear c7
       have H' := am H
       clear H
       have p101 : 0 ≤ (x5_1 : Int) := of_decide_eq_true (pY82)
       have q101 : x5_1 < (l0.length : Int) := of_decide_eq_true (pY82)
       obtain ⟨ad101, A101_1, c101_1, A101_2, c101_2, e101, hx101_0, hx101_1, hx101_2, hl101_1, hi101_1, hl101_2, hi101_2⟩ := at_T94 HR0.1 x5_1 p101 q101
       cases e101
       replace hx101_0 := hX HB hx101_0
       replace hx101_1 := hX HB hx101_1
       replace hx101_2 := hX HB hx101_2
       have HR101_1 := am hi101_1
       have HC101_1 := am hl101_1
       clear hi101_1 hl101_1
       have HR101_2 := am hi101_2
       have HC101_2 := am hl101_2
       clear hi101_2 hl101_2
       replace p101 := eq_true p101
       replace q101 := eq_true q101
       go_wp2_with (first | ((with_reducible refine gate_callee (f := 110) rfl ?_); refine goesL_ (some 23) rfl rfl Try.func110 (by kernel_rfl) rfl #[.agg #[.string ((rd_T94 l0 x5_1).f0), .slice A101_1 ((rd_T94 l0 x5_1).f1).length c101_1, .slice A101_2 ((rd_T94 l0 x5_1).f2).length c101_2], .int .i64 x1_1] rfl (pY54) ?_; (with_reducible refine (laws_szShareBatch.calls k1 ((rd_T94 l0 x5_1).f0) _ _ ((rd_T94 l0 x5_1).f1) _ _ ((rd_T94 l0 x5_1).f2) x1_1 t102 _ ?side1 ?side2 ?side3 ?side4 A6.out).mono ?_); (case side1 => exact pC (Kd.C_below HR101_1.1 HB.1)); (case side2 => exact HC101_1.1); (case side3 => exact pC (Kd.C_below HR101_2.1 HB.1)); (case side4 => exact HC101_2.1); rintro e w9 ⟨rfl, hb⟩; refine ⟨_, rfl, ?_⟩; replace HB := bS pY55 hb; (try clear hb); (try clear hb2); (try clear hk); (try clear hi)))
       go_roundg k1
       case measure => have := HK1.out; omega
       case rel => exact ⟨(t102), (wrap64 (x5_1 + 1)), (pY83), (pY83), H', ⟨by have := HK1.out; omega⟩, ⟨pY55⟩⟩
     ·rw [if_neg c5] at H
      exact absurd H (by simp)
    ·rw [if_neg c4] at H
     have c4b0 : decide (x5_1 < (l0.length : Int)) = false := decide_eq_false c4
     clear c4
     obtain rfl := Option.some.inj H
     go_wp2
     go_ret
     exact ⟨by first | rfl | (simp [errW_none, errW_some] <;> rfl) | (simp [*, errW_none, errW_some] <;> rfl), pY55⟩
end Go.Proofs.Ytaofjgnhapnndaa.Q
namespace Go.Proofs.Ytaofjgnhapnndaa.Q
open Go.RowKit Go.Proofs.YtaofjgnhapnndaaW.PrintWords Go.Proofs.YtaofjgnhapnndaaW.PrintLast Go.Proofs.YtaofjgnhapnndaaW.PrintMore
set_option linter.unusedVariables false
set_option linter.unusedSimpArgs false
def laws_szShareBook.f (k : Nat) (l0_0 : List ByteArray) (l0_1 : List (S94)) (a1 : Int) : Option (Int) := (laws_szStringS.f k l0_0 a1).bind fun t102 => (if t102 < 0 then (some (-1)) else ((laws_szShareBatchS.f k l0_1 t102).bind fun t103 => (if t103 < 0 then (some (-1)) else (some t103))))
set_option maxHeartbeats 8000000 in
set_option maxRecDepth 100000 in
theorem laws_szShareBook.calls (k : Nat) (A0_0 : Option Addr) (c0_0 : Nat) (l0_0 : List ByteArray) (A0_1 : Option Addr) (c0_1 : Nat) (l0_1 : List (S94)) (a1 : Int) (r : Int) (w : World) (hr0_0 : Kd.C Kd.string w A0_0 l0_0.length l0_0) (hc0_0 : l0_0.length ≤ c0_0) (hr0_1 : Kd.C k94 w A0_1 l0_1.length l0_1) (hc0_1 : l0_1.length ≤ c0_1) (h : laws_szShareBook.f k l0_0 l0_1 a1 = some r) :
  Calls Try.prog 21 #[.agg #[.slice A0_0 l0_0.length c0_0, .slice A0_1 l0_1.length c0_1], .int .i64 a1] w fun e w' => e = .returned (.int .i64 r) ∧ Below w.heap.size w w' := by
 have hu26 := Try.underlying26
 have HR0_0 := am hr0_0
 have HC0_0 := am hc0_0
 clear hr0_0 hc0_0
 have HR0_1 := am hr0_1
 have HC0_1 := am hc0_1
 clear hr0_1 hc0_1
 have HB := am (Below.refl w.heap.size w)
 have H : ((laws_szStringS.f k l0_0 a1).bind fun t102 => (if t102 < 0 then (some (-1)) else ((laws_szShareBatchS.f k l0_1 t102).bind fun t103 => (if t103 < 0 then (some (-1)) else (some t103))))) = some r := h
 clear h
 obtain ⟨t102, A3, H⟩ := bd H
 by_cases c4 : t102 < 0
 ·rw [if_pos c4] at H
  have c4b0 : decide (t102 < 0) = true := decide_eq_true c4
  clear c4
  obtain rfl := Option.some.inj H
  go_enter Try.func21, Try.ntmps21
  go_wp2_with (first | (refine bX 2 #[.slice A0_0 l0_0.length c0_0, .slice A0_1 l0_1.length c0_1] 26 ?_; intro gb101 hg w5 hbox hb; have BK101 := am (hbox); have GW101 := am (pY52 : w.heap.size ≤ gb101); have GE101 := am (pY52 : w.heap.size ≤ gb101); replace HB := bS pY55 hb; clear hb hbox hg; obtain ⟨hcz6_0, hcz6_1, hfz6_0, hfz6_1⟩ := cz2 BK101) | ((with_reducible refine gate_callee (f := 30) rfl ?_); refine goesL_ (some 8) rfl rfl Try.func30 (by kernel_rfl) rfl #[.slice A0_0 l0_0.length c0_0, .int .i64 a1] rfl (pY54) ?_; (with_reducible refine (laws_szStringS.calls k _ _ l0_0 a1 t102 _ ?side1 ?side2 A3.out).mono ?_); (case side1 => exact pC (Kd.C_below HR0_0.1 HB.1)); (case side2 => exact HC0_0.1); rintro e w' ⟨rfl, ⟨nd, rfl⟩⟩; refine ⟨_, rfl, ?_⟩))
  go_ret
  exact ⟨by first | rfl | (simp [errW_none, errW_some] <;> rfl) | (simp [*, errW_none, errW_some] <;> rfl), pY53⟩
 ·rw [if_neg c4] at H
  have c4b0 : decide (t102 < 0) = false := decide_eq_false c4
  clear c4
  obtain ⟨t103, A7, H⟩ := bd H
  by_cases c8 : t103 < 0
  ·rw [if_pos c8] at H
   have c8b0 : decide (t103 < 0) = true := decide_eq_true c8
   clear c8
   obtain rfl := Option.some.inj H
   go_enter Try.func21, Try.ntmps21
   go_wp2_with (first | (refine bX 2 #[.slice A0_0 l0_0.length c0_0, .slice A0_1 l0_1.length c0_1] 26 ?_; intro gb101 hg w9 hbox hb; have BK101 := am (hbox); have GW101 := am (pY52 : w.heap.size ≤ gb101); have GE101 := am (pY52 : w.heap.size ≤ gb101); replace HB := bS pY55 hb; clear hb hbox hg; obtain ⟨hcz10_0, hcz10_1, hfz10_0, hfz10_1⟩ := cz2 BK101) | ((with_reducible refine gate_callee (f := 30) rfl ?_); refine goesL_ (some 8) rfl rfl Try.func30 (by kernel_rfl) rfl #[.slice A0_0 l0_0.length c0_0, .int .i64 a1] rfl (pY54) ?_; (with_reducible refine (laws_szStringS.calls k _ _ l0_0 a1 t102 _ ?side1 ?side2 A3.out).mono ?_); (case side1 => exact pC (Kd.C_below HR0_0.1 HB.1)); (case side2 => exact HC0_0.1); rintro e w' ⟨rfl, ⟨nd, rfl⟩⟩; refine ⟨_, rfl, ?_⟩) | ((with_reducible refine gate_callee (f := 68) rfl ?_); refine goesL_ (some 14) rfl rfl Try.func68 (by kernel_rfl) rfl #[.slice A0_1 l0_1.length c0_1, .int .i64 t102] rfl (pY54) ?_; (with_reducible refine (laws_szShareBatchS.calls k _ _ l0_1 t102 t103 _ ?side1 ?side2 A7.out).mono ?_); (case side1 => exact pC (Kd.C_below HR0_1.1 (pY53))); (case side2 => exact HC0_1.1); rintro e w11 ⟨rfl, hb⟩; refine ⟨_, rfl, ?_⟩; replace BK101 := bB pY58 hb; replace HB := bS pY53 hb; (try clear hb); (try clear hb2); (try clear hk); (try clear hi)))
   go_ret
   exact ⟨by first | rfl | (simp [errW_none, errW_some] <;> rfl) | (simp [*, errW_none, errW_some] <;> rfl), pY53⟩
  ·rw [if_neg c8] at H
   have c8b0 : decide (t103 < 0) = false := decide_eq_false c8
   clear c8
   obtain rfl := Option.some.inj H
   go_enter Try.func21, Try.ntmps21
   go_wp2_with (first | (refine bX 2 #[.slice A0_0 l0_0.length c0_0, .slice A0_1 l0_1.length c0_1] 26 ?_; intro gb101 hg w12 hbox hb; have BK101 := am (hbox); have GW101 := am (pY52 : w.heap.size ≤ gb101); have GE101 := am (pY52 : w.heap.size ≤ gb101); replace HB := bS pY55 hb; clear hb hbox hg; obtain ⟨hcz13_0, hcz13_1, hfz13_0, hfz13_1⟩ := cz2 BK101) | ((with_reducible refine gate_callee (f := 30) rfl ?_); refine goesL_ (some 8) rfl rfl Try.func30 (by kernel_rfl) rfl #[.slice A0_0 l0_0.length c0_0, .int .i64 a1] rfl (pY54) ?_; (with_reducible refine (laws_szStringS.calls k _ _ l0_0 a1 t102 _ ?side1 ?side2 A3.out).mono ?_); (case side1 => exact pC (Kd.C_below HR0_0.1 HB.1)); (case side2 => exact HC0_0.1); rintro e w' ⟨rfl, ⟨nd, rfl⟩⟩; refine ⟨_, rfl, ?_⟩) | ((with_reducible refine gate_callee (f := 68) rfl ?_); refine goesL_ (some 14) rfl rfl Try.func68 (by kernel_rfl) rfl #[.slice A0_1 l0_1.length c0_1, .int .i64 t102] rfl (pY54) ?_; (with_reducible refine (laws_szShareBatchS.calls k _ _ l0_1 t102 t103 _ ?side1 ?side2 A7.out).mono ?_); (case side1 => exact pC (Kd.C_below HR0_1.1 (pY53))); (case side2 => exact HC0_1.1); rintro e w14 ⟨rfl, hb⟩; refine ⟨_, rfl, ?_⟩; replace BK101 := bB pY58 hb; replace HB := bS pY53 hb; (try clear hb); (try clear hb2); (try clear hk); (try clear hi)))
   go_ret
   exact ⟨by first | rfl | (simp [errW_none, errW_some] <;> rfl) | (simp [*, errW_none, errW_some] <;> rfl), pY53⟩
end Go.Proofs.Ytaofjgnhapnndaa.Q
namespace Go.Proofs.Ytaofjgnhapnndaa.Q
open Go.RowKit Go.Proofs.YtaofjgnhapnndaaW.PrintWords Go.Proofs.YtaofjgnhapnndaaW.PrintLast Go.Proofs.YtaofjgnhapnndaaW.PrintMore
set_option linter.unusedVariables false
set_option linter.unusedSimpArgs false
def laws_toStringS.l0 : Nat → List ByteArray → List ByteArray → Int → Option (List ByteArray)
 | 0, _, _, _ => none
 | k + 1, x0, x3, x4 => if x4 < (x0.length : Int) then (if 0 ≤ x4 then (if x4 < (x3.length : Int) then (laws_toStringS.l0 k x0 (x3.set (x4 : Int).toNat (rdOf ByteArray.empty x0 x4)) (wrap64 (x4 + 1))) else (none)) else (none)) else (some x3)
def laws_toStringS.f (k : Nat) (l0 : List ByteArray) : Option (List ByteArray) := if 0 ≤ (l0.length : Int) then (if ((l0.length : Int) : Int).toNat ≤ 17592186044416 then (laws_toStringS.l0 k l0 (List.replicate ((l0.length : Int) : Int).toNat (⟨#[]⟩ : ByteArray)) 0) else (none)) else (none)
set_option maxHeartbeats 8000000 in
set_option maxRecDepth 100000 in
theorem laws_toStringS.calls (k : Nat) (A0 : Option Addr) (c0 : Nat) (l0 : List ByteArray) (r : List ByteArray) (w : World) (hr0 : Kd.C Kd.string w A0 l0.length l0) (hc0 : l0.length ≤ c0) (h : laws_toStringS.f k l0 = some r) :
  Calls Try.prog 32 #[.slice A0 l0.length c0] w fun e w' => ∃ v0_ : Value, e = .returned (v0_) ∧ Kd.R Kd.string 9 w' w.heap.size (fun _ => True) v0_ r ∧ Below w.heap.size w w' := by
 have HR0 := am hr0
 have HC0 := am hc0
 clear hr0 hc0
 have HB := am (Below.refl w.heap.size w)
 have H : (if 0 ≤ (l0.length : Int) then (if ((l0.length : Int) : Int).toNat ≤ 17592186044416 then (laws_toStringS.l0 k l0 (List.replicate ((l0.length : Int) : Int).toNat (⟨#[]⟩ : ByteArray)) 0) else (none)) else (none)) = some r := h
 clear h
 by_cases c2 : 0 ≤ (l0.length : Int)
 ·rw [if_pos c2] at H
  have c2b0 := eq_true c2
  have c2b1 : decide (0 ≤ (l0.length : Int)) = true := decide_eq_true c2
  clear c2
  by_cases c3 : ((l0.length : Int) : Int).toNat ≤ 17592186044416
  ·rw [if_pos c3] at H
   have c3b0 := eq_true c3
   have c3b1 : decide (((l0.length : Int) : Int).toNat ≤ 17592186044416) = true := decide_eq_true c3
   clear c3
   first | (replace H := bZ (List.replicate ((l0.length : Int) : Int).toNat (⟨#[]⟩ : ByteArray)) H; obtain ⟨y101, Ny101, H⟩ := H) | (obtain ⟨y101, Ny101⟩ := yv (List.replicate ((l0.length : Int) : Int).toNat (⟨#[]⟩ : ByteArray)); rw [← Ny101.1] at H)
   have H' := am H
   clear H
   go_enter Try.func32, Try.ntmps32
   go_wp2_with (first | ((with_reducible refine gate_dst (N := 7) rfl ?_); refine Kd.R_make Kd.string _ 9 rfl (N := 7) rfl 23 _ _ rfl (l0.length : Int) rfl rfl Try.underlying23 (.string ⟨#[]⟩) 16 info9 rfl (by decide) (by omega) (⟨#[]⟩ : ByteArray) (ok := fun _ => True) (okp := fun _ => True) rfl (fun _ hk => hk) trivial (of_decide_eq_true (pY82)) (Nat.le_trans (Nat.mul_le_mul_right _ (of_decide_eq_true (pY82) : (l0.length : Int).toNat ≤ 17592186044416)) (by omega)) (Below.refl _ _) (Nat.le_refl _) ?_; intro v102 w4 ho5 hb hg_ hnew_; clear hg_ hnew_; (first | rw [← Ny101.out] at ho5 | (simp only [Int.reduceToNat] at ho5; rw [← Ny101.out] at ho5)); have HO103 := am (Kd.R_lower ho5 (below_size (pY55))); replace HB := bS pY55 hb; clear hb ho5))
   go_loopg [4] k (fun kq v4 w' => ∃ (x3_1 : List ByteArray) (x4_1 : Int), v4 = .int .i64 x4_1 ∧ Aside0 (laws_toStringS.l0 kq l0 x3_1 x4_1 = some r) ∧ Aside0 (kq ≤ k) ∧ Aside0 (Kd.R Kd.string 9 w' w.heap.size (fun _ => True) v102 x3_1) ∧ Aside0 (Below w.heap.size w w'))
   case atStart => exact ⟨(y101), (0), (pY83), H', ⟨Nat.le_refl _⟩, ⟨rR HO103.1⟩, ⟨pY55⟩⟩
   case round =>
    clear H'
    try clear c2
    try clear c2b0
    try clear c2b1
    try clear c3
    try clear c3b0
    try clear c3b1
    obtain ⟨x3_1, x4_1, rfl, HA, HK1, HO_3, HB⟩ := hrel
    cases gk with
    | zero => exact absurd HA.out (by simp [laws_toStringS.l0])
    | succ k1 =>
     have H := HA.out
     clear HA
     simp only [laws_toStringS.l0] at H
     by_cases c6 : x4_1 < (l0.length : Int)
     ·rw [if_pos c6] at H
      have c6b0 : decide (x4_1 < (l0.length : Int)) = true := decide_eq_true c6
      clear c6
      by_cases c7 : 0 ≤ x4_1
      ·rw [if_pos c7] at H
       have c7b0 : decide (0 ≤ x4_1) = true := decide_eq_true c7
       clear c7
       by_cases c8 : x4_1 < (x3_1.length : Int)
       ·rw [if_pos c8] at H
        have c8b0 : decide (x4_1 < (x3_1.length : Int)) = true := decide_eq_true c8
        clear c8
        first | (replace H := bZ (x3_1.set (x4_1 : Int).toNat (rdOf ByteArray.empty l0 x4_1)) H; obtain ⟨y105, Ny105, H⟩ := H) | (obtain ⟨y105, Ny105⟩ := yv (x3_1.set (x4_1 : Int).toNat (rdOf ByteArray.empty l0 x4_1)); rw [← Ny105.1] at H)
        have H' := am H
        clear H
        have p104 : 0 ≤ (x4_1 : Int) := of_decide_eq_true (pY82)
        have q104 : x4_1 < (l0.length : Int) := of_decide_eq_true (pY82)
        obtain ⟨ad104, e104, hx104_0⟩ := Kd.at_string HR0.1 x4_1 p104 q104
        cases e104
        replace hx104_0 := hX HB hx104_0
        replace p104 := eq_true p104
        replace q104 := eq_true q104
        have p9 : 0 ≤ (x4_1 : Int) := of_decide_eq_true (pY82)
        have q9 : (x4_1 : Int) < ((x3_1.length : Int) : Int) := of_decide_eq_true (pY82)
        obtain ⟨go9, co9, eo9, gb9, gl9, cl9, HG9⟩ := Kd.R_form HO_3.1 (by omega)
        (first | cases eo9 | (injection eo9 with ea_ en_ ec_; (first | subst ea_ | (injection ea_ with ea_; subst ea_)); subst ec_; clear en_))
        have GB9 := am gb9
        have GG9 := am HG9
        clear gb9 gl9 HG9
        obtain ⟨hx9_0, hf9_0⟩ := Kd.R_celln (⟨#[]⟩ : ByteArray) HO_3.1 (x4_1 : Int) p9 q9
        replace p9 := eq_true p9
        replace q9 := eq_true q9
        have HP10 := Kd.R_putg HO_3.1 (x4_1 : Int) (rdOf ByteArray.empty l0 x4_1)
        go_wp2_with (first | ((with_reducible refine gate_store (t := 9) (p := 20) rfl ?_); refine store_event (t := 9) (p := 20) (v := ?vo_w11) (w1 := (wr.setCell ⟨go9, (x4_1 : Int).toNat, none⟩ (.string (rdOf ByteArray.empty l0 x4_1)))) ?hg ?ho ?hn ?hr ?_; (case ho => rfl); (case hg => rfl); (case hn => rfl); (case hr => first | (go_simp; done) | (go_simp; rfl)); intro w11 hw; have hg : wr.grownBy w11 (some go9) := (by rw [hw]; exact HP10.2); have hp_ : Kd.R Kd.string 9 w11 w.heap.size (fun _ => True) (.slice (some ⟨go9, 0, none⟩) x3_1.length co9) y105 := (by rw [hw, Ny105.out]; exact HP10.1); clear HP10; replace HO_3 := am (hp_); replace HB := am (by rw [hw]; exact below_set (HB.1) GB9.out : Below w.heap.size w w11); clear hg hw hp_))
        go_roundg k1
        case measure => have := HK1.out; omega
        case rel => exact ⟨(y105), (wrap64 (x4_1 + 1)), (pY83), H', ⟨by have := HK1.out; omega⟩, ⟨rR HO_3.1⟩, ⟨pY55⟩⟩
       ·rw [if_neg c8] at H
        exact absurd H (by simp)
      ·rw [if_neg c7] at H
       exact absurd H (by simp)
     ·rw [if_neg c6] at H
      have c6b0 : decide (x4_1 < (l0.length : Int)) = false := decide_eq_false c6
      clear c6
      obtain rfl := Option.some.inj H
      go_wp2
      go_ret
      exact ⟨_, by first | rfl | (simp [errW_none, errW_some] <;> rfl) | (simp [*, errW_none, errW_some] <;> rfl), rR HO_3.1, pY55⟩
  ·rw [if_neg c3] at H
   exact absurd H (by simp)
 ·rw [if_neg c2] at H
  exact absurd H (by simp)
end Go.Proofs.Ytaofjgnhapnndaa.Q
namespace Go.Proofs.Ytaofjgnhapnndaa.Q
open Go.RowKit Go.Proofs.YtaofjgnhapnndaaW.PrintWords Go.Proofs.YtaofjgnhapnndaaW.PrintLast Go.Proofs.YtaofjgnhapnndaaW.PrintMore
set_option linter.unusedVariables false
set_option linter.unusedSimpArgs false
def laws_toShareBatch.f (k : Nat) (a0_0 : ByteArray) (l0_1 : List ByteArray) (l0_2 : List ByteArray) : Option (ByteArray × List ByteArray × List ByteArray) := (laws_toStringS.f k l0_1).bind fun t104 => ((laws_toStringS.f k l0_2).bind fun t107 => (some (a0_0, t104, t107)))
set_option maxHeartbeats 8000000 in
set_option maxRecDepth 100000 in
theorem laws_toShareBatch.calls (k : Nat) (a0_0 : ByteArray) (A0_1 : Option Addr) (c0_1 : Nat) (l0_1 : List ByteArray) (A0_2 : Option Addr) (c0_2 : Nat) (l0_2 : List ByteArray) (r1 : ByteArray) (r2 : List ByteArray) (r3 : List ByteArray) (w : World) (hr0_1 : Kd.C Kd.string w A0_1 l0_1.length l0_1) (hc0_1 : l0_1.length ≤ c0_1) (hr0_2 : Kd.C Kd.string w A0_2 l0_2.length l0_2) (hc0_2 : l0_2.length ≤ c0_2) (h : laws_toShareBatch.f k a0_0 l0_1 l0_2 = some (r1, r2, r3)) :
  Calls Try.prog 112 #[.agg #[.string a0_0, .slice A0_1 l0_1.length c0_1, .slice A0_2 l0_2.length c0_2]] w fun e w' => ∃ v1_ v2_ : Value, e = .returned (.agg #[.string r1, v1_, v2_]) ∧ Kd.R Kd.string 9 w' w.heap.size (fun k_ => some k_ ≠ (v2_ : Value).ownBlock) v1_ r2 ∧ Kd.R Kd.string 9 w' w.heap.size (fun k_ => some k_ ≠ (v1_ : Value).ownBlock) v2_ r3 ∧ Below w.heap.size w w' := by
 have hu94 := Try.underlying94
 have hu56 := Try.underlying56
 have HR0_1 := am hr0_1
 have HC0_1 := am hc0_1
 clear hr0_1 hc0_1
 have HR0_2 := am hr0_2
 have HC0_2 := am hc0_2
 clear hr0_2 hc0_2
 have HB := am (Below.refl w.heap.size w)
 have H : ((laws_toStringS.f k l0_1).bind fun t104 => ((laws_toStringS.f k l0_2).bind fun t107 => (some (a0_0, t104, t107)))) = some (r1, r2, r3) := h
 clear h
 obtain ⟨t104, A2, H⟩ := bd H
 obtain ⟨t107, A3, H⟩ := bd H
 simp only [Option.some.injEq, Prod.mk.injEq] at H
 obtain ⟨rfl, rfl, rfl⟩ := H
 go_enter Try.func112, Try.ntmps112
 go_wp2_with (first | (refine bX 1 #[.string a0_0, .slice A0_1 l0_1.length c0_1, .slice A0_2 l0_2.length c0_2] 94 ?_; intro gb101 hg w4 hbox hb; have BK101 := am (hbox); have GW101 := am (pY52 : w.heap.size ≤ gb101); have GE101 := am (pY52 : w.heap.size ≤ gb101); replace HB := bS pY55 hb; clear hb hbox hg) | (refine bX 2 #[.string (⟨#[]⟩ : ByteArray), .slice none 0 0, .slice none 0 0] 56 ?_; intro gb102 hg w5 hbox hb; have BK102 := am (hbox); have GW102 := am (pY45 : w.heap.size ≤ gb102); have GE102 := am (pY45 : w.heap.size ≤ gb102); replace HB := bS pY53 hb; have NB101_102 := nL pY58 hg; have NB102_101 := nG pY58 hg; replace BK101 := bB pY58 hb; clear hb hbox hg) | (refine bX 3 #[.string (⟨#[]⟩ : ByteArray), .slice none 0 0, .slice none 0 0] 56 ?_; intro gb103 hg w6 hbox hb; have BK103 := am (hbox); have GW103 := am (pY39 : w.heap.size ≤ gb103); have GE103 := am (pY39 : w.heap.size ≤ gb103); replace HB := bS pY46 hb; have NB101_103 := nL pY58 hg; have NB103_101 := nG pY58 hg; replace BK101 := bB pY58 hb; have NB102_103 := nL pY59 hg; have NB103_102 := nG pY59 hg; replace BK102 := bB pY59 hb; clear hb hbox hg; have hnb7 := NB101_102.1; have hnc7 := NB102_101.1; have hnb8 := NB101_103.1; have hnc8 := NB103_101.1; obtain ⟨hcz9_0, hcz9_1, hcz9_2, hfz9_0, hfz9_1, hfz9_2⟩ := cz3 BK101; have hnb10 := NB103_102.1; have hnc10 := NB102_103.1; obtain ⟨hcz11_0, hcz11_1, hcz11_2, hfz11_0, hfz11_1, hfz11_2⟩ := cz3 BK103) | ((with_reducible refine gate_callee (f := 32) rfl ?_); refine goesL_ (some 9) rfl rfl Try.func32 (by kernel_rfl) rfl #[.slice A0_1 l0_1.length c0_1] rfl (pY54) ?_; (with_reducible refine (laws_toStringS.calls k _ _ l0_1 t104 _ ?side1 ?side2 A2.out).mono ?_); (case side1 => exact Kd.C_below HR0_1.1 (pY41)); (case side2 => exact HC0_1.1); rintro e w12 ⟨v105, rfl, ho0, hb⟩; refine ⟨_, rfl, ?_⟩; have HO106 := am (Kd.R_lower ho0 (below_size (pY41))); replace BK101 := am (blk_below (g := gb101) (o := .cells #[.string a0_0, .slice A0_1 l0_1.length c0_1, .slice A0_2 l0_2.length c0_2] 94 (0, 0)) (by (with_reducible repeat (first | refine blk_drewN ?_ _ | refine blk_drew ?_ | refine blk_alloc ?_ _)); refine blk_far ?_ NB101_103.1 _; (with_reducible repeat (first | refine blk_drewN ?_ _ | refine blk_drew ?_ | refine blk_alloc ?_ _)); exact BK101.1) hb); replace BK102 := am (blk_below (g := gb102) (o := .cells #[.string (⟨#[]⟩ : ByteArray), .slice none 0 0, .slice none 0 0] 56 (0, 0)) (by (with_reducible repeat (first | refine blk_drewN ?_ _ | refine blk_drew ?_ | refine blk_alloc ?_ _)); refine blk_far ?_ NB102_103.1 _; (with_reducible repeat (first | refine blk_drewN ?_ _ | refine blk_drew ?_ | refine blk_alloc ?_ _)); exact BK102.1) hb); replace BK103 := am (blk_below (g := gb103) (o := .cells #[.string a0_0, .slice none 0 0, .slice none 0 0] 56 (0, 0)) (by (with_reducible repeat (first | refine blk_drewN ?_ _ | refine blk_drew ?_ | refine blk_alloc ?_ _)); refine blk_put (cs := #[.string (⟨#[]⟩ : ByteArray), .slice none 0 0, .slice none 0 0]) ?_ 0 _ rfl; (with_reducible repeat (first | refine blk_drewN ?_ _ | refine blk_drew ?_ | refine blk_alloc ?_ _)); exact BK103.1) hb); replace HB := bS pY41 hb; (try clear hb); (try clear hb2); (try clear hk); (try clear hi); (try clear ho0); obtain ⟨Ao13, co13, eo13⟩ := Kd.R_slice HO106.1; subst eo13; obtain ⟨hcz14_0, hcz14_1, hcz14_2, hfz14_0, hfz14_1, hfz14_2⟩ := cz3 BK103; obtain ⟨hcz15_0, hcz15_1, hcz15_2, hfz15_0, hfz15_1, hfz15_2⟩ := cz3 BK101) | ((with_reducible refine gate_callee (f := 32) rfl ?_); refine goesL_ (some 13) rfl rfl Try.func32 (by kernel_rfl) rfl #[.slice A0_2 l0_2.length c0_2] rfl (pY54) ?_; (with_reducible refine (laws_toStringS.calls k _ _ l0_2 t107 _ ?side1 ?side2 A3.out).mono ?_); (case side1 => exact Kd.C_below HR0_2.1 (pY41)); (case side2 => exact HC0_2.1); rintro e w16 ⟨v108, rfl, ho0, hb⟩; refine ⟨_, rfl, ?_⟩; have HO109 := am (Kd.R_lower (Kd.R_new' ho0 (Kd.R_lt (by refine rR ?_; exact (Kd.R_mono (Kd.R_far (p := ⟨gb103, 1, none⟩) (Kd.R_types HO106.1 BK103.1 (by decide)) (fun _ hk => hk.2) (.slice Ao13 t104.length co13)) (fun _ h_ => h_.1))))) (below_size (pY41))); replace HO106 := am (Kd.R_elder' (by refine rR ?_; exact (Kd.R_mono (Kd.R_far (p := ⟨gb103, 1, none⟩) (Kd.R_types HO106.1 BK103.1 (by decide)) (fun _ hk => hk.2) (.slice Ao13 t104.length co13)) (fun _ h_ => h_.1))) (Kd.R_base ho0) hb); replace BK101 := am (blk_below (g := gb101) (o := .cells #[.string a0_0, .slice A0_1 l0_1.length c0_1, .slice A0_2 l0_2.length c0_2] 94 (0, 0)) (by (with_reducible repeat (first | refine blk_drewN ?_ _ | refine blk_drew ?_ | refine blk_alloc ?_ _)); refine blk_far ?_ NB101_103.1 _; (with_reducible repeat (first | refine blk_drewN ?_ _ | refine blk_drew ?_ | refine blk_alloc ?_ _)); exact BK101.1) hb); replace BK102 := am (blk_below (g := gb102) (o := .cells #[.string (⟨#[]⟩ : ByteArray), .slice none 0 0, .slice none 0 0] 56 (0, 0)) (by (with_reducible repeat (first | refine blk_drewN ?_ _ | refine blk_drew ?_ | refine blk_alloc ?_ _)); refine blk_far ?_ NB102_103.1 _; (with_reducible repeat (first | refine blk_drewN ?_ _ | refine blk_drew ?_ | refine blk_alloc ?_ _)); exact BK102.1) hb); replace BK103 := am (blk_below (g := gb103) (o := .cells #[.string a0_0, .slice Ao13 t104.length co13, .slice none 0 0] 56 (0, 0)) (by (with_reducible repeat (first | refine blk_drewN ?_ _ | refine blk_drew ?_ | refine blk_alloc ?_ _)); refine blk_put (cs := #[.string a0_0, .slice none 0 0, .slice none 0 0]) ?_ 1 _ rfl; (with_reducible repeat (first | refine blk_drewN ?_ _ | refine blk_drew ?_ | refine blk_alloc ?_ _)); exact BK103.1) hb); replace HB := bS pY41 hb; (try clear hb); (try clear hb2); (try clear hk); (try clear hi); (try clear ho0); obtain ⟨Ao17, co17, eo17⟩ := Kd.R_slice HO109.1; subst eo17; obtain ⟨hcz18_0, hcz18_1, hcz18_2, hfz18_0, hfz18_1, hfz18_2⟩ := cz3 BK103; obtain ⟨hcz19_0, hcz19_1, hcz19_2, hfz19_0, hfz19_1, hfz19_2⟩ := cz3 BK102))
 refine bodyPost_ret (results_cell_row rfl _ _ gb102 56 #[.string a0_0, .slice Ao13 t104.length co13, .slice Ao17 t107.length co17] (0, 0) _ rfl (by (with_reducible repeat (first | refine blk_drewN ?_ _ | refine blk_drew ?_ | refine blk_alloc ?_ _)); refine blk_put (cs := #[.string a0_0, .slice Ao13 t104.length co13, .slice none 0 0]) ?_ 2 _ rfl; (with_reducible repeat (first | refine blk_drewN ?_ _ | refine blk_drew ?_ | refine blk_alloc ?_ _)); refine blk_put (cs := #[.string a0_0, .slice none 0 0, .slice none 0 0]) ?_ 1 _ rfl; (with_reducible repeat (first | refine blk_drewN ?_ _ | refine blk_drew ?_ | refine blk_alloc ?_ _)); refine blk_put (cs := #[.string (⟨#[]⟩ : ByteArray), .slice none 0 0, .slice none 0 0]) ?_ 0 _ rfl; (with_reducible repeat (first | refine blk_drewN ?_ _ | refine blk_drew ?_ | refine blk_alloc ?_ _)); refine blk_far ?_ NB102_103.1 _; (with_reducible repeat (first | refine blk_drewN ?_ _ | refine blk_drew ?_ | refine blk_alloc ?_ _)); exact BK102.1) Try.underlying56 rfl (by kernel_rfl)) rfl ?_
 exact ⟨_, _, by first | rfl | (simp [errW_none, errW_some] <;> rfl) | (simp [*, errW_none, errW_some] <;> rfl), by refine rR ?_; exact Kd.R_mono (Kd.R_far (p := ⟨gb102, 2, none⟩) (Kd.R_far (p := ⟨gb102, 1, none⟩) (Kd.R_far (p := ⟨gb102, 0, none⟩) (Kd.R_far (p := ⟨gb103, 2, none⟩) (Kd.R_types (Kd.R_types HO106.1 BK103.1 (by decide)) BK102.1 (by decide)) (fun _ hk => hk.1.2) (.slice Ao17 t107.length co17)) (fun _ hk => hk.2) (.string a0_0)) (fun _ hk => hk.2) (.slice Ao13 t104.length co13)) (fun _ hk => hk.2) (.slice Ao17 t107.length co17)) (fun _ hk => hk.1.1.2), by refine rR ?_; exact Kd.R_mono (Kd.R_far (p := ⟨gb102, 2, none⟩) (Kd.R_far (p := ⟨gb102, 1, none⟩) (Kd.R_far (p := ⟨gb102, 0, none⟩) (Kd.R_far (p := ⟨gb103, 2, none⟩) (Kd.R_types (Kd.R_types HO109.1 BK103.1 (by decide)) BK102.1 (by decide)) (fun _ hk => hk.1.2) (.slice Ao17 t107.length co17)) (fun _ hk => hk.2) (.string a0_0)) (fun _ hk => hk.2) (.slice Ao13 t104.length co13)) (fun _ hk => hk.2) (.slice Ao17 t107.length co17)) (fun _ hk => hk.1.1.2), pY41⟩
end Go.Proofs.Ytaofjgnhapnndaa.Q
namespace Go.Proofs.Ytaofjgnhapnndaa.Q
open Go.RowKit Go.Proofs.YtaofjgnhapnndaaW.PrintWords Go.Proofs.YtaofjgnhapnndaaW.PrintLast Go.Proofs.YtaofjgnhapnndaaW.PrintMore
set_option linter.unusedVariables false
set_option linter.unusedSimpArgs false
def laws_toShareBatchS.l0 : Nat → List (S94) → List (S56) → Int → Option ((List (S56)))
 | 0, _, _, _ => none
 | k + 1, x0, x3, x4 => if x4 < (x0.length : Int) then (if 0 ≤ x4 then ((laws_toShareBatch.f k ((rd_T94 x0 x4).f0) ((rd_T94 x0 x4).f1) ((rd_T94 x0 x4).f2)).bind fun bt105 => (if x4 < (x3.length : Int) then (laws_toShareBatchS.l0 k x0 (x3.set (x4 : Int).toNat (⟨bt105.1, bt105.2.1, bt105.2.2⟩ : S56)) (wrap64 (x4 + 1))) else (none))) else (none)) else (some x3)
def laws_toShareBatchS.f (k : Nat) (l0 : List (S94)) : Option ((List (S56))) := if 0 ≤ (l0.length : Int) then (if ((l0.length : Int) : Int).toNat ≤ 4398046511104 then (laws_toShareBatchS.l0 k l0 (List.replicate ((l0.length : Int) : Int).toNat z56) 0) else (none)) else (none)
set_option maxHeartbeats 8000000 in
set_option maxRecDepth 100000 in
theorem laws_toShareBatchS.calls (k : Nat) (A0 : Option Addr) (c0 : Nat) (l0 : List (S94)) (r : List (S56)) (w : World) (hr0 : Kd.C k94 w A0 l0.length l0) (hc0 : l0.length ≤ c0) (h : laws_toShareBatchS.f k l0 = some r) :
  Calls Try.prog 73 #[.slice A0 l0.length c0] w fun e w' => ∃ v0_ : Value, e = .returned (v0_) ∧ Kd.S k56 56 w' w.heap.size (fun _ => True) v0_ r ∧ Below w.heap.size w w' := by
 have hu94 := Try.underlying94
 have hu56 := Try.underlying56
 have HR0 := am hr0
 have HC0 := am hc0
 clear hr0 hc0
 have HB := am (Below.refl w.heap.size w)
 have H : (if 0 ≤ (l0.length : Int) then (if ((l0.length : Int) : Int).toNat ≤ 4398046511104 then (laws_toShareBatchS.l0 k l0 (List.replicate ((l0.length : Int) : Int).toNat z56) 0) else (none)) else (none)) = some r := h
 clear h
 by_cases c2 : 0 ≤ (l0.length : Int)
 ·rw [if_pos c2] at H
  have c2b0 := eq_true c2
  have c2b1 : decide (0 ≤ (l0.length : Int)) = true := decide_eq_true c2
  clear c2
  by_cases c3 : ((l0.length : Int) : Int).toNat ≤ 4398046511104
  ·rw [if_pos c3] at H
   have c3b0 := eq_true c3
   have c3b1 : decide (((l0.length : Int) : Int).toNat ≤ 4398046511104) = true := decide_eq_true c3
   clear c3
   first | (replace H := bZ (List.replicate ((l0.length : Int) : Int).toNat z56) H; obtain ⟨y101, Ny101, H⟩ := H) | (obtain ⟨y101, Ny101⟩ := yv (List.replicate ((l0.length : Int) : Int).toNat z56); rw [← Ny101.1] at H)
   have H' := am H
   clear H
   go_enter Try.func73, Try.ntmps73
   go_wp2_with (first | ((with_reducible refine gate_dst (N := 7) rfl ?_); refine Kd.S_make k56 _ 56 rfl (N := 7) rfl 29 _ _ rfl (l0.length : Int) rfl rfl Try.underlying29 (.agg #[(.string ⟨#[]⟩), (.slice none 0 0), (.slice none 0 0)]) 64 info56 rfl (by decide) (by omega) z56 (ok := fun _ => True) (okp := fun _ => True) (k56_mkM _ _ _ z56 (Kd.R_nil _ _ _ _ _) (Kd.R_nil _ _ _ _ _)) (fun _ hk => hk) trivial (of_decide_eq_true (pY82)) (Nat.le_trans (Nat.mul_le_mul_right _ (of_decide_eq_true (pY82) : (l0.length : Int).toNat ≤ 4398046511104)) (by omega)) (Below.refl _ _) (Nat.le_refl _) ?_; intro v102 w4 ho5 hb hg_ hnew_; clear hg_ hnew_; (first | rw [← Ny101.out] at ho5 | (simp only [Int.reduceToNat] at ho5; rw [← Ny101.out] at ho5)); have HO103 := am (Kd.S_lower ho5 (below_size (pY55))); replace HB := bS pY55 hb; clear hb ho5))
   go_loopg [4] k (fun kq v4 w' => ∃ (x3_1 : List (S56)) (x4_1 : Int), v4 = .int .i64 x4_1 ∧ Aside0 (laws_toShareBatchS.l0 kq l0 x3_1 x4_1 = some r) ∧ Aside0 (kq ≤ k) ∧ Aside0 (Kd.S k56 56 w' w.heap.size (fun _ => True) v102 x3_1) ∧ Aside0 (Below w.heap.size w w'))
   case atStart => exact ⟨(y101), (0), (pY83), H', ⟨Nat.le_refl _⟩, ⟨rS HO103.1⟩, ⟨pY55⟩⟩
   case round =>
    clear H'
    try clear c2
    try clear c2b0
    try clear c2b1
    try clear c3
    try clear c3b0
    try clear c3b1
    obtain ⟨x3_1, x4_1, rfl, HA, HK1, HO_3, HB⟩ := hrel
    cases gk with
    | zero => exact absurd HA.out (by simp [laws_toShareBatchS.l0])
    | succ k1 =>
     have H := HA.out
     clear HA
     simp only [laws_toShareBatchS.l0] at H
     by_cases c6 : x4_1 < (l0.length : Int)
     ·rw [if_pos c6] at H
      have c6b0 : decide (x4_1 < (l0.length : Int)) = true := decide_eq_true c6
      clear c6
      by_cases c7 : 0 ≤ x4_1
      ·rw [if_pos c7] at H
       have c7b0 : decide (0 ≤ x4_1) = true := decide_eq_true c7
       clear c7
       obtain ⟨⟨t105, t106, t109⟩, A8, H⟩ := bd H
       dsimp only at H
       by_cases c9 : x4_1 < (x3_1.length : Int)
       ·rw [if_pos c9] at H
        have c9b0 : decide (x4_1 < (x3_1.length : Int)) = true := decide_eq_true c9
        clear c9
        first | (replace H := bZ (x3_1.set (x4_1 : Int).toNat (⟨t105, t106, t109⟩ : S56)) H; obtain ⟨y112, Ny112, H⟩ := H) | (obtain ⟨y112, Ny112⟩ := yv (x3_1.set (x4_1 : Int).toNat (⟨t105, t106, t109⟩ : S56)); rw [← Ny112.1] at H)
        have H' := am H
        clear H
        have p104 : 0 ≤ (x4_1 : Int) := of_decide_eq_true (pY82)
        have q104 : x4_1 < (l0.length : Int) := of_decide_eq_true (pY82)
        obtain ⟨ad104, A104_1, c104_1, A104_2, c104_2, e104, hx104_0, hx104_1, hx104_2, hl104_1, hi104_1, hl104_2, hi104_2⟩ := at_T94 HR0.1 x4_1 p104 q104
        cases e104
        replace hx104_0 := hX HB hx104_0
        replace hx104_1 := hX HB hx104_1
        replace hx104_2 := hX HB hx104_2
        have HR104_1 := am hi104_1
        have HC104_1 := am hl104_1
        clear hi104_1 hl104_1
        have HR104_2 := am hi104_2
        have HC104_2 := am hl104_2
        clear hi104_2 hl104_2
        replace p104 := eq_true p104
        replace q104 := eq_true q104
        go_wp2_with (first | ((with_reducible refine gate_callee (f := 112) rfl ?_); refine goesL_ (some 20) rfl rfl Try.func112 (by kernel_rfl) rfl #[.agg #[.string ((rd_T94 l0 x4_1).f0), .slice A104_1 ((rd_T94 l0 x4_1).f1).length c104_1, .slice A104_2 ((rd_T94 l0 x4_1).f2).length c104_2]] rfl (pY54) ?_; (with_reducible refine (laws_toShareBatch.calls k1 ((rd_T94 l0 x4_1).f0) _ _ ((rd_T94 l0 x4_1).f1) _ _ ((rd_T94 l0 x4_1).f2) t105 t106 t109 _ ?side1 ?side2 ?side3 ?side4 A8.out).mono ?_); (case side1 => exact pC (Kd.C_below HR104_1.1 HB.1)); (case side2 => exact HC104_1.1); (case side3 => exact pC (Kd.C_below HR104_2.1 HB.1)); (case side4 => exact HC104_2.1); rintro e w11 ⟨v107, v110, rfl, ho0, ho1, hb⟩; refine ⟨_, rfl, ?_⟩; replace HO_3 := am (Kd.S_mono (Kd.S_told (Kd.S_told (Kd.S_old (rS HO_3.1) hb) (Kd.R_base ho0)) (Kd.R_base ho1)) (fun _ h_ => h_.1)); have HO108 := am (Kd.R_lower ho0 (below_size (pY55))); have HO111 := am (Kd.R_lower ho1 (below_size (pY55))); replace HB := bS pY55 hb; (try clear hb); (try clear hb2); (try clear hk); (try clear hi); (try clear ho0); (try clear ho1); have p10 : 0 ≤ (x4_1 : Int) := of_decide_eq_true (pY82); have q10 : (x4_1 : Int) < ((x3_1.length : Int) : Int) := of_decide_eq_true (pY82); obtain ⟨go10, co10, eo10, gb10, gl10, cl10, HG10⟩ := Kd.S_form HO_3.1 (by omega); (first | cases eo10 | (injection eo10 with ea_ en_ ec_; (first | subst ea_ | (injection ea_ with ea_; subst ea_)); subst ec_; clear en_)); have GB10 := am gb10; have GG10 := am HG10; clear gb10 gl10 HG10; obtain ⟨_, ce10, hcl10, hM10, hcc10, hfr10, _, _⟩ := Kd.S_elem HO_3.1 z56 (x4_1 : Int) p10 q10; obtain ⟨ve10_1, ve10_2, rfl, ge10_1, ge10_2⟩ := k56_openM hM10; have hx10_0 : w11.cell? ⟨go10, (x4_1 : Int).toNat * 3, none⟩ = some (.string ((rd_T56 x3_1 x4_1).f0)) := hcc10 0 _ rfl; have hx10_1 : w11.cell? ⟨go10, (x4_1 : Int).toNat * 3 + 1, none⟩ = some (ve10_1) := hcc10 1 _ rfl; have hx10_2 : w11.cell? ⟨go10, (x4_1 : Int).toNat * 3 + 2, none⟩ = some (ve10_2) := hcc10 2 _ rfl; have hf10_0 : w11.frozen? ⟨go10, (x4_1 : Int).toNat * 3, none⟩ = false := hfr10 0; have hf10_1 : w11.frozen? ⟨go10, (x4_1 : Int).toNat * 3 + 1, none⟩ = false := hfr10 1; have hf10_2 : w11.frozen? ⟨go10, (x4_1 : Int).toNat * 3 + 2, none⟩ = false := hfr10 2; clear hcl10 hcc10 hfr10 hM10; replace p10 := eq_true p10; replace q10 := eq_true q10; replace HO_3 := am (Kd.S_mono (ok' := (fun k_ => some k_ ≠ (v107 : Value).ownBlock ∧ some k_ ≠ (v110 : Value).ownBlock)) HO_3.1 (fun k_ hk => ⟨hk.1.2, hk.2⟩)); have HX12 := am (show Kd.S k56 56 w11 w.heap.size (fun k_ => ((fun _ => True)) k_ ∧ ¬ ((fun k_ => some k_ = (v107 : Value).ownBlock ∨ some k_ = (v110 : Value).ownBlock)) k_) (.slice (some ⟨go10, 0, none⟩) x3_1.length co10) x3_1 from (by refine rS ?_; exact Kd.S_mono HO_3.1 (fun k_ hk => ⟨trivial, fun e_ => e_.elim (fun h_ => hk.1 h_) (fun h_ => hk.2 h_)⟩))); obtain ⟨oki12, ce12, hcl12, hM12, hcc12, hfr12, hoki12, hH12⟩ := Kd.S_elem HX12.out z56 (x4_1 : Int) (of_decide_eq_true (pY82)) (by have h_ : (x4_1 : Int) < ((x3_1.length : Int) : Int) := of_decide_eq_true (pY82); first | exact h_ | (have e_ := (Kd.S_reads' HO_3.1).1; omega) | simpa using h_); obtain ⟨ve12_1, ve12_2, rfl, ge12_1, ge12_2⟩ := k56_openM hM12; have HP12 := Kd.S_seg hH12 (of_decide_eq_true (pY82)) (by have h_ : (x4_1 : Int) < ((x3_1.length : Int) : Int) := of_decide_eq_true (pY82); first | exact h_ | (have e_ := (Kd.S_reads' HO_3.1).1; omega) | simpa using h_) (seg := [.string t105, v107, v110]) (j := 0) (show 3 ≤ 3 from by decide) (x' := (⟨t105, t106, t109⟩ : S56)) (k56_mkM _ _ _ (⟨t105, t106, t109⟩ : S56) (Kd.R_mono (Kd.R_tight rfl (Kd.R_mono (ok' := fun k_ => ((fun _ => True)) k_ ∧ k_ ≠ go10) (Kd.R_apart' (HO108.1) (Kd.S_typed HO_3.1) (by decide)) (fun k_ hk => ⟨trivial, fun e_ => (hk.2) (by rw [e_]; rfl)⟩))) (fun _ h_ => Or.inr (Or.inl h_))) (Kd.R_mono (Kd.R_tight rfl (Kd.R_mono (ok' := fun k_ => ((fun _ => True)) k_ ∧ k_ ≠ go10) (Kd.R_apart' (HO111.1) (Kd.S_typed HO_3.1) (by decide)) (fun k_ hk => ⟨trivial, fun e_ => (hk.2) (by rw [e_]; rfl)⟩))) (fun _ h_ => Or.inr (Or.inr (h_)))) (sep_of HO108.1 HO111.1)) (fun _ hk => hk) (fun k_ hk_ => hk_.elim (fun h_ => ((Kd.R_mono (ok' := fun k_ => ((fun _ => True)) k_ ∧ k_ ≠ go10) (Kd.R_apart' (HO108.1) (Kd.S_typed HO_3.1) (by decide)) (fun k_ hk => ⟨trivial, fun e_ => (hk.2) (by rw [e_]; rfl)⟩))).1 k_ h_.symm) (fun h_ => ((Kd.R_mono (ok' := fun k_ => ((fun _ => True)) k_ ∧ k_ ≠ go10) (Kd.R_apart' (HO111.1) (Kd.S_typed HO_3.1) (by decide)) (fun k_ hk => ⟨trivial, fun e_ => (hk.2) (by rw [e_]; rfl)⟩))).1 k_ h_.symm)); have hx12_0 := hcc12 0 _ rfl; (try simp only [show (k56).sz = 3 from rfl, Nat.mul_one, Nat.add_zero] at hx12_0); have hf12_0 := hfr12 0; (try simp only [show (k56).sz = 3 from rfl, Nat.mul_one, Nat.add_zero] at hf12_0); have hx12_1 := hcc12 1 _ rfl; (try simp only [show (k56).sz = 3 from rfl, Nat.mul_one, Nat.add_zero] at hx12_1); have hf12_1 := hfr12 1; (try simp only [show (k56).sz = 3 from rfl, Nat.mul_one, Nat.add_zero] at hf12_1); have hx12_2 := hcc12 2 _ rfl; (try simp only [show (k56).sz = 3 from rfl, Nat.mul_one, Nat.add_zero] at hx12_2); have hf12_2 := hfr12 2; (try simp only [show (k56).sz = 3 from rfl, Nat.mul_one, Nat.add_zero] at hf12_2); clear hcl12 hcc12 hfr12 hM12 hoki12 hH12) | ((with_reducible refine gate_store (t := 56) (p := 21) rfl ?_); refine store_event (t := 56) (p := 21) (v := ?vo_w13) (w1 := (((w11.setCell ⟨go10, (x4_1 : Int).toNat * 3, none⟩ (.string t105)).setCell ⟨go10, (x4_1 : Int).toNat * 3 + 1, none⟩ (v107)).setCell ⟨go10, (x4_1 : Int).toNat * 3 + 2, none⟩ (v110))) ?hg ?ho ?hn ?hr ?_; (case ho => rfl); (case hg => rfl); (case hn => rfl); (case hr => (try (obtain ⟨Az_, cz_, ez_⟩ := Kd.R_slice HO108.1; subst ez_)); (try (obtain ⟨Az_, cz_, ez_⟩ := Kd.R_slice HO111.1; subst ez_)); first | (go_simp; done) | (go_simp; rfl)); intro w13 hw; have hg : w11.grownBy w13 (some go10) := (by rw [hw]; exact HP12.2); have hp_ : Kd.S k56 56 w13 w.heap.size (fun _ => True) (.slice (some ⟨go10, 0, none⟩) x3_1.length co10) y112 := (by rw [hw, Ny112.out]; exact HP12.1); clear HP12; replace HO_3 := am (hp_); replace HB := am (by rw [hw]; exact below_set (below_set (below_set (HB.1) GB10.out) GB10.out) GB10.out : Below w.heap.size w w13); clear HO108; clear HO111; clear hg hw hp_))
        go_roundg k1
        case measure => have := HK1.out; omega
        case rel => exact ⟨(y112), (wrap64 (x4_1 + 1)), (pY83), H', ⟨by have := HK1.out; omega⟩, ⟨rS HO_3.1⟩, ⟨pY55⟩⟩
       ·rw [if_neg c9] at H
        exact absurd H (by simp)
      ·rw [if_neg c7] at H
       exact absurd H (by simp)
     ·rw [if_neg c6] at H
      have c6b0 : decide (x4_1 < (l0.length : Int)) = false := decide_eq_false c6
      clear c6
      obtain rfl := Option.some.inj H
      go_wp2
      go_ret
      exact ⟨_, by first | rfl | (simp [errW_none, errW_some] <;> rfl) | (simp [*, errW_none, errW_some] <;> rfl), rS HO_3.1, pY55⟩
  ·rw [if_neg c3] at H
   exact absurd H (by simp)
 ·rw [if_neg c2] at H
  exact absurd H (by simp)
end Go.Proofs.Ytaofjgnhapnndaa.Q
namespace Go.Proofs.Ytaofjgnhapnndaa.Q
open Go.RowKit Go.Proofs.YtaofjgnhapnndaaW.PrintWords Go.Proofs.YtaofjgnhapnndaaW.PrintLast Go.Proofs.YtaofjgnhapnndaaW.PrintMore
set_option linter.unusedVariables false
set_option linter.unusedSimpArgs false
def laws_toShareBook.f (k : Nat) (l0_0 : List ByteArray) (l0_1 : List (S94)) : Option (List ByteArray × (List (S56))) := (laws_toStringS.f k l0_0).bind fun t104 => ((laws_toShareBatchS.f k l0_1).bind fun t107 => (some (t104, t107)))
set_option maxHeartbeats 8000000 in
set_option maxRecDepth 100000 in
theorem laws_toShareBook.calls (k : Nat) (A0_0 : Option Addr) (c0_0 : Nat) (l0_0 : List ByteArray) (A0_1 : Option Addr) (c0_1 : Nat) (l0_1 : List (S94)) (r1 : List ByteArray) (r2 : List (S56)) (w : World) (hr0_0 : Kd.C Kd.string w A0_0 l0_0.length l0_0) (hc0_0 : l0_0.length ≤ c0_0) (hr0_1 : Kd.C k94 w A0_1 l0_1.length l0_1) (hc0_1 : l0_1.length ≤ c0_1) (h : laws_toShareBook.f k l0_0 l0_1 = some (r1, r2)) :
  Calls Try.prog 23 #[.agg #[.slice A0_0 l0_0.length c0_0, .slice A0_1 l0_1.length c0_1]] w fun e w' => ∃ v0_ v1_ : Value, e = .returned (.agg #[v0_, v1_]) ∧ Kd.R Kd.string 9 w' w.heap.size (fun _ => True) v0_ r1 ∧ Kd.S k56 56 w' w.heap.size (fun k_ => some k_ ≠ (v0_ : Value).ownBlock) v1_ r2 ∧ Below w.heap.size w w' := by
 have hu26 := Try.underlying26
 have hu31 := Try.underlying31
 have HR0_0 := am hr0_0
 have HC0_0 := am hc0_0
 clear hr0_0 hc0_0
 have HR0_1 := am hr0_1
 have HC0_1 := am hc0_1
 clear hr0_1 hc0_1
 have HB := am (Below.refl w.heap.size w)
 have H : ((laws_toStringS.f k l0_0).bind fun t104 => ((laws_toShareBatchS.f k l0_1).bind fun t107 => (some (t104, t107)))) = some (r1, r2) := h
 clear h
 obtain ⟨t104, A2, H⟩ := bd H
 obtain ⟨t107, A3, H⟩ := bd H
 simp only [Option.some.injEq, Prod.mk.injEq] at H
 obtain ⟨rfl, rfl⟩ := H
 go_enter Try.func23, Try.ntmps23
 go_wp2_with (first | (refine bX 1 #[.slice A0_0 l0_0.length c0_0, .slice A0_1 l0_1.length c0_1] 26 ?_; intro gb101 hg w4 hbox hb; have BK101 := am (hbox); have GW101 := am (pY52 : w.heap.size ≤ gb101); have GE101 := am (pY52 : w.heap.size ≤ gb101); replace HB := bS pY55 hb; clear hb hbox hg) | (refine bX 2 #[.slice none 0 0, .slice none 0 0] 31 ?_; intro gb102 hg w5 hbox hb; have BK102 := am (hbox); have GW102 := am (pY45 : w.heap.size ≤ gb102); have GE102 := am (pY45 : w.heap.size ≤ gb102); replace HB := bS pY53 hb; have NB101_102 := nL pY58 hg; have NB102_101 := nG pY58 hg; replace BK101 := bB pY58 hb; clear hb hbox hg) | (refine bX 3 #[.slice none 0 0, .slice none 0 0] 31 ?_; intro gb103 hg w6 hbox hb; have BK103 := am (hbox); have GW103 := am (pY39 : w.heap.size ≤ gb103); have GE103 := am (pY39 : w.heap.size ≤ gb103); replace HB := bS pY46 hb; have NB101_103 := nL pY58 hg; have NB103_101 := nG pY58 hg; replace BK101 := bB pY58 hb; have NB102_103 := nL pY59 hg; have NB103_102 := nG pY59 hg; replace BK102 := bB pY59 hb; clear hb hbox hg; have hnb7 := NB101_102.1; have hnc7 := NB102_101.1; have hnb8 := NB101_103.1; have hnc8 := NB103_101.1; obtain ⟨hcz9_0, hcz9_1, hfz9_0, hfz9_1⟩ := cz2 BK101) | ((with_reducible refine gate_callee (f := 32) rfl ?_); refine goesL_ (some 6) rfl rfl Try.func32 (by kernel_rfl) rfl #[.slice A0_0 l0_0.length c0_0] rfl (pY54) ?_; (with_reducible refine (laws_toStringS.calls k _ _ l0_0 t104 _ ?side1 ?side2 A2.out).mono ?_); (case side1 => exact pC (Kd.C_below HR0_0.1 HB.1)); (case side2 => exact HC0_0.1); rintro e w10 ⟨v105, rfl, ho0, hb⟩; refine ⟨_, rfl, ?_⟩; have HO106 := am (Kd.R_lower ho0 (below_size (pY41))); replace BK101 := bB pY58 hb; replace BK102 := bB pY59 hb; replace BK103 := am (blk_below (g := gb103) (o := .cells #[.slice none 0 0, .slice none 0 0] 31 (0, 0)) (rB BK103.1) hb); replace HB := bS pY41 hb; (try clear hb); (try clear hb2); (try clear hk); (try clear hi); (try clear ho0); obtain ⟨Ao11, co11, eo11⟩ := Kd.R_slice HO106.1; subst eo11; have hnb12 := NB103_102.1; have hnc12 := NB102_103.1; obtain ⟨hcz13_0, hcz13_1, hfz13_0, hfz13_1⟩ := cz2 BK103; obtain ⟨hcz14_0, hcz14_1, hfz14_0, hfz14_1⟩ := cz2 BK101) | ((with_reducible refine gate_callee (f := 73) rfl ?_); refine goesL_ (some 10) rfl rfl Try.func73 (by kernel_rfl) rfl #[.slice A0_1 l0_1.length c0_1] rfl (pY54) ?_; (with_reducible refine (laws_toShareBatchS.calls k _ _ l0_1 t107 _ ?side1 ?side2 A3.out).mono ?_); (case side1 => exact Kd.C_below HR0_1.1 (pY41)); (case side2 => exact HC0_1.1); rintro e w15 ⟨v108, rfl, ho0, hb⟩; refine ⟨_, rfl, ?_⟩; have HO109 := am (Kd.S_lower (Kd.S_new' ho0 (Kd.R_lt (by refine rR ?_; exact (Kd.R_mono (Kd.R_far (p := ⟨gb103, 0, none⟩) (Kd.R_types HO106.1 BK103.1 (by decide)) (fun _ hk => hk.2) (.slice Ao11 t104.length co11)) (fun _ h_ => h_.1))))) (below_size (pY41))); replace HO106 := am (Kd.R_below (by refine rR ?_; exact (Kd.R_mono (Kd.R_far (p := ⟨gb103, 0, none⟩) (Kd.R_types HO106.1 BK103.1 (by decide)) (fun _ hk => hk.2) (.slice Ao11 t104.length co11)) (fun _ h_ => h_.1))) hb); replace BK101 := am (blk_below (g := gb101) (o := .cells #[.slice A0_0 l0_0.length c0_0, .slice A0_1 l0_1.length c0_1] 26 (0, 0)) (by (with_reducible repeat (first | refine blk_drewN ?_ _ | refine blk_drew ?_ | refine blk_alloc ?_ _)); refine blk_far ?_ NB101_103.1 _; (with_reducible repeat (first | refine blk_drewN ?_ _ | refine blk_drew ?_ | refine blk_alloc ?_ _)); exact BK101.1) hb); replace BK102 := am (blk_below (g := gb102) (o := .cells #[.slice none 0 0, .slice none 0 0] 31 (0, 0)) (by (with_reducible repeat (first | refine blk_drewN ?_ _ | refine blk_drew ?_ | refine blk_alloc ?_ _)); refine blk_far ?_ NB102_103.1 _; (with_reducible repeat (first | refine blk_drewN ?_ _ | refine blk_drew ?_ | refine blk_alloc ?_ _)); exact BK102.1) hb); replace BK103 := am (blk_below (g := gb103) (o := .cells #[.slice Ao11 t104.length co11, .slice none 0 0] 31 (0, 0)) (by (with_reducible repeat (first | refine blk_drewN ?_ _ | refine blk_drew ?_ | refine blk_alloc ?_ _)); refine blk_put (cs := #[.slice none 0 0, .slice none 0 0]) ?_ 0 _ rfl; (with_reducible repeat (first | refine blk_drewN ?_ _ | refine blk_drew ?_ | refine blk_alloc ?_ _)); exact BK103.1) hb); replace HB := bS pY41 hb; (try clear hb); (try clear hb2); (try clear hk); (try clear hi); (try clear ho0); obtain ⟨Ao16, co16, eo16⟩ := Kd.S_slice HO109.1; subst eo16; obtain ⟨hcz17_0, hcz17_1, hfz17_0, hfz17_1⟩ := cz2 BK103; obtain ⟨hcz18_0, hcz18_1, hfz18_0, hfz18_1⟩ := cz2 BK102))
 refine bodyPost_ret (results_cell_row rfl _ _ gb102 31 #[.slice Ao11 t104.length co11, .slice Ao16 t107.length co16] (0, 0) _ rfl (by (with_reducible repeat (first | refine blk_drewN ?_ _ | refine blk_drew ?_ | refine blk_alloc ?_ _)); refine blk_put (cs := #[.slice Ao11 t104.length co11, .slice none 0 0]) ?_ 1 _ rfl; (with_reducible repeat (first | refine blk_drewN ?_ _ | refine blk_drew ?_ | refine blk_alloc ?_ _)); refine blk_put (cs := #[.slice none 0 0, .slice none 0 0]) ?_ 0 _ rfl; (with_reducible repeat (first | refine blk_drewN ?_ _ | refine blk_drew ?_ | refine blk_alloc ?_ _)); refine blk_far ?_ NB102_103.1 _; (with_reducible repeat (first | refine blk_drewN ?_ _ | refine blk_drew ?_ | refine blk_alloc ?_ _)); exact BK102.1) Try.underlying31 rfl (by kernel_rfl)) rfl ?_
 exact ⟨_, _, by first | rfl | (simp [errW_none, errW_some] <;> rfl) | (simp [*, errW_none, errW_some] <;> rfl), by refine rR ?_; exact Kd.R_mono (Kd.R_far (p := ⟨gb102, 1, none⟩) (Kd.R_far (p := ⟨gb102, 0, none⟩) (Kd.R_far (p := ⟨gb103, 1, none⟩) (Kd.R_types (Kd.R_types HO106.1 BK103.1 (by decide)) BK102.1 (by decide)) (fun _ hk => hk.1.2) (.slice Ao16 t107.length co16)) (fun _ hk => hk.2) (.slice Ao11 t104.length co11)) (fun _ hk => hk.2) (.slice Ao16 t107.length co16)) (fun _ hk => trivial), by refine rS ?_; exact Kd.S_mono (Kd.S_far (p := ⟨gb102, 1, none⟩) (Kd.S_far (p := ⟨gb102, 0, none⟩) (Kd.S_far (p := ⟨gb103, 1, none⟩) (Kd.S_types (Kd.S_types HO109.1 BK103.1 (by decide)) BK102.1 (by decide)) (fun _ hk => hk.1.2) (.slice Ao16 t107.length co16)) (fun _ hk => hk.2) (.slice Ao11 t104.length co11)) (fun _ hk => hk.2) (.slice Ao16 t107.length co16)) (fun _ hk => hk.1.1.2), pY41⟩
end Go.Proofs.Ytaofjgnhapnndaa.Q
namespace Go.Proofs.Ytaofjgnhapnndaa.Q
open Go.RowKit Go.Proofs.YtaofjgnhapnndaaW.PrintWords Go.Proofs.YtaofjgnhapnndaaW.PrintLast Go.Proofs.YtaofjgnhapnndaaW.PrintMore
set_option linter.unusedVariables false
set_option linter.unusedSimpArgs false
def spec_l1Has.l0 : Nat → List ByteArray → ByteArray → Int → Option (Bool)
 | 0, _, _, _ => none
 | k + 1, x0, x1, x5 => if x5 < (x0.length : Int) then (if 0 ≤ x5 then (if (rdOf ByteArray.empty x0 x5).toList = x1.toList then (some true) else (spec_l1Has.l0 k x0 x1 (wrap64 (x5 + 1)))) else (none)) else (some false)
def spec_l1Has.f (k : Nat) (l0 : List ByteArray) (a1 : ByteArray) : Option (Bool) := spec_l1Has.l0 k l0 a1 0
set_option maxHeartbeats 8000000 in
set_option maxRecDepth 100000 in
theorem spec_l1Has.calls (k : Nat) (A0 : Option Addr) (c0 : Nat) (l0 : List ByteArray) (a1 : ByteArray) (r : Bool) (w : World) (hr0 : Kd.C Kd.string w A0 l0.length l0) (hc0 : l0.length ≤ c0) (h : spec_l1Has.f k l0 a1 = some r) :
  Calls Try.prog 80 #[.slice A0 l0.length c0, .string a1] w fun e w' => e = .returned (.bool r) ∧ Drawn0 w w' := by
 have HR0 := am hr0
 have HC0 := am hc0
 clear hr0 hc0
 have H : (spec_l1Has.l0 k l0 a1 0) = some r := h
 clear h
 have H' := am H
 clear H
 go_enter Try.func80, Try.ntmps80
 go_wp2
 go_loopg [5] k (fun kq v5 w' => ∃ (x5_1 : Int), v5 = .int .i64 x5_1 ∧ Aside0 (spec_l1Has.l0 kq l0 a1 x5_1 = some r) ∧ Aside0 (kq ≤ k) ∧ Drawn0 w w')
 case atStart => exact ⟨(0), (pY83), H', ⟨Nat.le_refl _⟩, pY80⟩
 case round =>
  clear H'
  obtain ⟨x5_1, rfl, HA, HK1, ⟨m1, rfl⟩⟩ := hrel
  cases gk with
  | zero => exact absurd HA.out (by simp [spec_l1Has.l0])
  | succ k1 =>
   have H := HA.out
   clear HA
   simp only [spec_l1Has.l0] at H
   by_cases c3 : x5_1 < (l0.length : Int)
   ·rw [if_pos c3] at H
    have c3b0 : decide (x5_1 < (l0.length : Int)) = true := decide_eq_true c3
    clear c3
    by_cases c4 : 0 ≤ x5_1
    ·rw [if_pos c4] at H
     have c4b0 : decide (0 ≤ x5_1) = true := decide_eq_true c4
     clear c4
     by_cases c5 : (rdOf ByteArray.empty l0 x5_1).toList = a1.toList
     ·rw [if_pos c5] at H
      have c5b0 : ((rdOf ByteArray.empty l0 x5_1).toList == a1.toList) = true := beq_iff_eq.mpr c5
      have c5b1 : ((rdOf ByteArray.empty l0 x5_1).toList != a1.toList) = false := bne_eq_false_iff_eq.mpr c5
      clear c5
      obtain rfl := Option.some.inj H
      have p101 : 0 ≤ (x5_1 : Int) := of_decide_eq_true (pY82)
      have q101 : x5_1 < (l0.length : Int) := of_decide_eq_true (pY82)
      obtain ⟨ad101, e101, hx101_0⟩ := Kd.at_string HR0.1 x5_1 p101 q101
      cases e101
      replace p101 := eq_true p101
      replace q101 := eq_true q101
      go_wp2
      go_ret
      exact ⟨by first | rfl | (simp; done) | (simp [*]; done), pY80⟩
     ·rw [if_neg c5] at H
      have c5b0 : ((rdOf ByteArray.empty l0 x5_1).toList == a1.toList) = false := beq_eq_false_iff_ne.mpr c5
      have c5b1 : ((rdOf ByteArray.empty l0 x5_1).toList != a1.toList) = true := bne_iff_ne.mpr c5
      have H' := am H
      clear H
      have p101 : 0 ≤ (x5_1 : Int) := of_decide_eq_true (pY82)
      have q101 : x5_1 < (l0.length : Int) := of_decide_eq_true (pY82)
      obtain ⟨ad101, e101, hx101_0⟩ := Kd.at_string HR0.1 x5_1 p101 q101
      cases e101
      replace p101 := eq_true p101
      replace q101 := eq_true q101
      go_wp2
      go_roundg k1
      case measure => have := HK1.out; omega
      case rel => exact ⟨(wrap64 (x5_1 + 1)), (pY83), H', ⟨by have := HK1.out; omega⟩, pY80⟩
    ·rw [if_neg c4] at H
     exact absurd H (by simp)
   ·rw [if_neg c3] at H
    have c3b0 : decide (x5_1 < (l0.length : Int)) = false := decide_eq_false c3
    clear c3
    obtain rfl := Option.some.inj H
    go_wp2
    go_ret
    exact ⟨by first | rfl | (simp; done) | (simp [*]; done), pY80⟩
end Go.Proofs.Ytaofjgnhapnndaa.Q
namespace Go.Proofs.Ytaofjgnhapnndaa.Q
open Go.RowKit Go.Proofs.YtaofjgnhapnndaaW.PrintWords Go.Proofs.YtaofjgnhapnndaaW.PrintLast Go.Proofs.YtaofjgnhapnndaaW.PrintMore
set_option linter.unusedVariables false
set_option linter.unusedSimpArgs false
def spec_l1Share.l0 : Nat → List ByteArray → List ByteArray → Int → Option (Bool)
 | 0, _, _, _ => none
 | k + 1, x0, x1, x5 => if x5 < (x0.length : Int) then (if 0 ≤ x5 then ((spec_l1Has.f k x1 (rdOf ByteArray.empty x0 x5)).bind fun t102 => (if t102 = true then (some true) else (spec_l1Share.l0 k x0 x1 (wrap64 (x5 + 1))))) else (none)) else (some false)
def spec_l1Share.f (k : Nat) (l0 : List ByteArray) (l1 : List ByteArray) : Option (Bool) := spec_l1Share.l0 k l0 l1 0
set_option maxHeartbeats 8000000 in
set_option maxRecDepth 100000 in
theorem spec_l1Share.calls (k : Nat) (A0 : Option Addr) (c0 : Nat) (l0 : List ByteArray) (A1 : Option Addr) (c1 : Nat) (l1 : List ByteArray) (r : Bool) (w : World) (hr0 : Kd.C Kd.string w A0 l0.length l0) (hc0 : l0.length ≤ c0) (hr1 : Kd.C Kd.string w A1 l1.length l1) (hc1 : l1.length ≤ c1) (h : spec_l1Share.f k l0 l1 = some r) :
  Calls Try.prog 72 #[.slice A0 l0.length c0, .slice A1 l1.length c1] w fun e w' => e = .returned (.bool r) ∧ Drawn0 w w' := by
 have HR0 := am hr0
 have HC0 := am hc0
 clear hr0 hc0
 have HR1 := am hr1
 have HC1 := am hc1
 clear hr1 hc1
 have H : (spec_l1Share.l0 k l0 l1 0) = some r := h
 clear h
 have H' := am H
 clear H
 go_enter Try.func72, Try.ntmps72
 go_wp2
 go_loopg [5] k (fun kq v5 w' => ∃ (x5_1 : Int), v5 = .int .i64 x5_1 ∧ Aside0 (spec_l1Share.l0 kq l0 l1 x5_1 = some r) ∧ Aside0 (kq ≤ k) ∧ Drawn0 w w')
 case atStart => exact ⟨(0), (pY83), H', ⟨Nat.le_refl _⟩, pY80⟩
 case round =>
  clear H'
  try clear c1
  obtain ⟨x5_1, rfl, HA, HK1, ⟨m1, rfl⟩⟩ := hrel
  cases gk with
  | zero => exact absurd HA.out (by simp [spec_l1Share.l0])
  | succ k1 =>
   have H := HA.out
   clear HA
   simp only [spec_l1Share.l0] at H
   by_cases c3 : x5_1 < (l0.length : Int)
   ·rw [if_pos c3] at H
    have c3b0 : decide (x5_1 < (l0.length : Int)) = true := decide_eq_true c3
    clear c3
    by_cases c4 : 0 ≤ x5_1
    ·rw [if_pos c4] at H
     have c4b0 : decide (0 ≤ x5_1) = true := decide_eq_true c4
     clear c4
     obtain ⟨t102, A5, H⟩ := bd H
     by_cases c6 : t102 = true
     ·subst c6
      replace H := iT H
      obtain rfl := Option.some.inj H
      have p101 : 0 ≤ (x5_1 : Int) := of_decide_eq_true (pY82)
      have q101 : x5_1 < (l0.length : Int) := of_decide_eq_true (pY82)
      obtain ⟨ad101, e101, hx101_0⟩ := Kd.at_string HR0.1 x5_1 p101 q101
      cases e101
      replace p101 := eq_true p101
      replace q101 := eq_true q101
      go_wp2_with (first | ((with_reducible refine gate_callee (f := 80) rfl ?_); refine goesL_ (some 17) rfl rfl Try.func80 (by kernel_rfl) rfl #[.slice A1 l1.length c1, .string (rdOf ByteArray.empty l0 x5_1)] rfl (pY54) ?_; (with_reducible refine (spec_l1Has.calls k1 _ _ l1 (rdOf ByteArray.empty l0 x5_1) true _ ?side1 ?side2 A5.out).mono ?_); (case side1 => exact pC HR1.1); (case side2 => exact HC1.1); rintro e w' ⟨rfl, ⟨nd, rfl⟩⟩; refine ⟨_, rfl, ?_⟩))
      go_ret
      exact ⟨by first | rfl | (simp; done) | (simp [*]; done), pY80⟩
     ·replace c6 := Bool.eq_false_iff.mpr c6
      subst c6
      replace H := iF H
      have H' := am H
      clear H
      have p101 : 0 ≤ (x5_1 : Int) := of_decide_eq_true (pY82)
      have q101 : x5_1 < (l0.length : Int) := of_decide_eq_true (pY82)
      obtain ⟨ad101, e101, hx101_0⟩ := Kd.at_string HR0.1 x5_1 p101 q101
      cases e101
      replace p101 := eq_true p101
      replace q101 := eq_true q101
      go_wp2_with (first | ((with_reducible refine gate_callee (f := 80) rfl ?_); refine goesL_ (some 17) rfl rfl Try.func80 (by kernel_rfl) rfl #[.slice A1 l1.length c1, .string (rdOf ByteArray.empty l0 x5_1)] rfl (pY54) ?_; (with_reducible refine (spec_l1Has.calls k1 _ _ l1 (rdOf ByteArray.empty l0 x5_1) false _ ?side1 ?side2 A5.out).mono ?_); (case side1 => exact pC HR1.1); (case side2 => exact HC1.1); rintro e w' ⟨rfl, ⟨nd, rfl⟩⟩; refine ⟨_, rfl, ?_⟩))
      go_roundg k1
      case measure => have := HK1.out; omega
      case rel => exact ⟨(wrap64 (x5_1 + 1)), (pY83), H', ⟨by have := HK1.out; omega⟩, pY80⟩
    ·rw [if_neg c4] at H
     exact absurd H (by simp)
   ·rw [if_neg c3] at H
    have c3b0 : decide (x5_1 < (l0.length : Int)) = false := decide_eq_false c3
    clear c3
    obtain rfl := Option.some.inj H
    go_wp2
    go_ret
    exact ⟨by first | rfl | (simp; done) | (simp [*]; done), pY80⟩
end Go.Proofs.Ytaofjgnhapnndaa.Q
namespace Go.Proofs.Ytaofjgnhapnndaa.Q
open Go.RowKit Go.Proofs.YtaofjgnhapnndaaW.PrintWords Go.Proofs.YtaofjgnhapnndaaW.PrintLast Go.Proofs.YtaofjgnhapnndaaW.PrintMore
set_option linter.unusedVariables false
set_option linter.unusedSimpArgs false
def spec_l3Taken.l0 : Nat → Int → List ByteArray → Int → List ByteArray → List (S56) → Option (Bool)
 | 0, _, _, _, _, _ => none
 | k + 1, x1, x2, x7, x102000, x102001 => if x7 < (x102001.length : Int) then (if x7 = x1 then (spec_l3Taken.l0 k x1 x2 (wrap64 (x7 + 1)) x102000 x102001) else (if 0 ≤ x7 then ((spec_l1Share.f k ((rd_T56 x102001 x7).f1) x2).bind fun t103 => (if t103 = true then (some true) else (spec_l3Taken.l0 k x1 x2 (wrap64 (x7 + 1)) x102000 x102001))) else (none))) else (some false)
def spec_l3Taken.f (k : Nat) (l0_0 : List ByteArray) (l0_1 : List (S56)) (a1 : Int) (l2 : List ByteArray) : Option (Bool) := spec_l3Taken.l0 k a1 l2 0 l0_0 l0_1
set_option maxHeartbeats 8000000 in
set_option maxRecDepth 100000 in
theorem spec_l3Taken.calls (k : Nat) (A0_0 : Option Addr) (c0_0 : Nat) (l0_0 : List ByteArray) (A0_1 : Option Addr) (c0_1 : Nat) (l0_1 : List (S56)) (a1 : Int) (A2 : Option Addr) (c2 : Nat) (l2 : List ByteArray) (r : Bool) (w : World) (hr0_0 : Kd.C Kd.string w A0_0 l0_0.length l0_0) (hc0_0 : l0_0.length ≤ c0_0) (hr0_1 : Kd.C k56 w A0_1 l0_1.length l0_1) (hc0_1 : l0_1.length ≤ c0_1) (hr2 : Kd.C Kd.string w A2 l2.length l2) (hc2 : l2.length ≤ c2) (h : spec_l3Taken.f k l0_0 l0_1 a1 l2 = some r) :
  Calls Try.prog 105 #[.agg #[.slice A0_0 l0_0.length c0_0, .slice A0_1 l0_1.length c0_1], .int .i64 a1, .slice A2 l2.length c2] w fun e w' => e = .returned (.bool r) ∧ Below w.heap.size w w' := by
 have hu31 := Try.underlying31
 have HR0_0 := am hr0_0
 have HC0_0 := am hc0_0
 clear hr0_0 hc0_0
 have HR0_1 := am hr0_1
 have HC0_1 := am hc0_1
 clear hr0_1 hc0_1
 have HR2 := am hr2
 have HC2 := am hc2
 clear hr2 hc2
 have HB := am (Below.refl w.heap.size w)
 have H : (spec_l3Taken.l0 k a1 l2 0 l0_0 l0_1) = some r := h
 clear h
 have H' := am H
 clear H
 go_enter Try.func105, Try.ntmps105
 go_wp2_with (first | (refine bX 3 #[.slice A0_0 l0_0.length c0_0, .slice A0_1 l0_1.length c0_1] 31 ?_; intro gb101 hg w4 hbox hb; have BK101 := am (hbox); have GW101 := am (pY52 : w.heap.size ≤ gb101); have GE101 := am (pY52 : w.heap.size ≤ gb101); replace HB := bS pY55 hb; clear hb hbox hg))
 go_loopg [7] k (fun kq v7 w' => ∃ (x7_1 : Int), v7 = .int .i64 x7_1 ∧ Aside0 (spec_l3Taken.l0 kq a1 l2 x7_1 l0_0 l0_1 = some r) ∧ Aside0 (kq ≤ k) ∧ Aside0 (w'.heap[gb101]? = some (.cells #[(.slice A0_0 l0_0.length c0_0), (.slice A0_1 l0_1.length c0_1)] 31 (0, 0))) ∧ Aside0 (Below w.heap.size w w'))
 case atStart => exact ⟨(0), (pY83), H', ⟨Nat.le_refl _⟩, ⟨rB BK101.1⟩, ⟨pY53⟩⟩
 case round =>
  clear H'
  try clear c2
  obtain ⟨x7_1, rfl, HA, HK1, BK101, HB⟩ := hrel
  cases gk with
  | zero => exact absurd HA.out (by simp [spec_l3Taken.l0])
  | succ k1 =>
   have H := HA.out
   clear HA
   simp only [spec_l3Taken.l0] at H
   by_cases c5 : x7_1 < (l0_1.length : Int)
   ·rw [if_pos c5] at H
    have c5b0 : decide (x7_1 < (l0_1.length : Int)) = true := decide_eq_true c5
    clear c5
    by_cases c6 : x7_1 = a1
    ·rw [if_pos c6] at H
     have c6b0 : (x7_1 == a1) = true := beq_iff_eq.mpr c6
     have c6b1 : (x7_1 != a1) = false := bne_eq_false_iff_eq.mpr c6
     clear c6
     have H' := am H
     clear H
     obtain ⟨hcz7_0, hcz7_1, hfz7_0, hfz7_1⟩ := cz2 BK101
     go_wp2
     go_roundg k1
     case measure => have := HK1.out; omega
     case rel => exact ⟨(wrap64 (x7_1 + 1)), (pY83), H', ⟨by have := HK1.out; omega⟩, ⟨rB BK101.1⟩, ⟨pY53⟩⟩
    ·rw [if_neg c6] at H
     have c6b0 : (x7_1 == a1) = false := beq_eq_false_iff_ne.mpr c6
     have c6b1 : (x7_1 != a1) = true := bne_iff_ne.mpr c6
     by_cases c8 : 0 ≤ x7_1
     ·rw [if_pos c8] at H
      have c8b0 : decide (0 ≤ x7_1) = true := decide_eq_true c8
      clear c8
      obtain ⟨t103, A9, H⟩ := bd H
      by_cases c10 : t103 = true
      ·subst c10
       replace H := iT H
       obtain rfl := Option.some.inj H
       obtain ⟨hcz11_0, hcz11_1, hfz11_0, hfz11_1⟩ := cz2 BK101
       have p102 : 0 ≤ (x7_1 : Int) := of_decide_eq_true (pY82)
       have q102 : x7_1 < (l0_1.length : Int) := of_decide_eq_true (pY82)
       obtain ⟨ad102, A102_1, c102_1, A102_2, c102_2, e102, hx102_0, hx102_1, hx102_2, hl102_1, hi102_1, hl102_2, hi102_2⟩ := at_T56 HR0_1.1 x7_1 p102 q102
       cases e102
       replace hx102_0 := hX HB hx102_0
       replace hx102_1 := hX HB hx102_1
       replace hx102_2 := hX HB hx102_2
       have HR102_1 := am hi102_1
       have HC102_1 := am hl102_1
       clear hi102_1 hl102_1
       have HR102_2 := am hi102_2
       have HC102_2 := am hl102_2
       clear hi102_2 hl102_2
       replace p102 := eq_true p102
       replace q102 := eq_true q102
       go_wp2_with (first | (go_at_call 72; refine cM (spec_l1Share.calls k1 _ _ ((rd_T56 l0_1 x7_1).f1) _ _ l2 true _ (pB HR102_1) HC102_1.1 (pB HR2) HC2.1 A9.out) ?_; rintro w' ⟨nd, rfl⟩))
       go_ret
       exact ⟨by first | rfl | (simp [errW_none, errW_some] <;> rfl) | (simp [*, errW_none, errW_some] <;> rfl), pY53⟩
      ·replace c10 := Bool.eq_false_iff.mpr c10
       subst c10
       replace H := iF H
       have H' := am H
       clear H
       obtain ⟨hcz12_0, hcz12_1, hfz12_0, hfz12_1⟩ := cz2 BK101
       have p102 : 0 ≤ (x7_1 : Int) := of_decide_eq_true (pY82)
       have q102 : x7_1 < (l0_1.length : Int) := of_decide_eq_true (pY82)
       obtain ⟨ad102, A102_1, c102_1, A102_2, c102_2, e102, hx102_0, hx102_1, hx102_2, hl102_1, hi102_1, hl102_2, hi102_2⟩ := at_T56 HR0_1.1 x7_1 p102 q102
       cases e102
       replace hx102_0 := hX HB hx102_0
       replace hx102_1 := hX HB hx102_1
       replace hx102_2 := hX HB hx102_2
       have HR102_1 := am hi102_1
       have HC102_1 := am hl102_1
       clear hi102_1 hl102_1
       have HR102_2 := am hi102_2
       have HC102_2 := am hl102_2
       clear hi102_2 hl102_2
       replace p102 := eq_true p102
       replace q102 := eq_true q102
       go_wp2_with (first | (go_at_call 72; refine cM (spec_l1Share.calls k1 _ _ ((rd_T56 l0_1 x7_1).f1) _ _ l2 false _ (pB HR102_1) HC102_1.1 (pB HR2) HC2.1 A9.out) ?_; rintro w' ⟨nd, rfl⟩))
       go_roundg k1
       case measure => have := HK1.out; omega
       case rel => exact ⟨(wrap64 (x7_1 + 1)), (pY83), H', ⟨by have := HK1.out; omega⟩, ⟨rB BK101.1⟩, ⟨pY53⟩⟩
     ·rw [if_neg c8] at H
      exact absurd H (by simp)
   ·rw [if_neg c5] at H
    have c5b0 : decide (x7_1 < (l0_1.length : Int)) = false := decide_eq_false c5
    clear c5
    obtain rfl := Option.some.inj H
    obtain ⟨hcz13_0, hcz13_1, hfz13_0, hfz13_1⟩ := cz2 BK101
    go_wp2
    go_ret
    exact ⟨by first | rfl | (simp [errW_none, errW_some] <;> rfl) | (simp [*, errW_none, errW_some] <;> rfl), pY53⟩
end Go.Proofs.Ytaofjgnhapnndaa.Q
namespace Go.Proofs.Ytaofjgnhapnndaa.Q
open Go.RowKit Go.Proofs.YtaofjgnhapnndaaW.PrintWords Go.Proofs.YtaofjgnhapnndaaW.PrintLast Go.Proofs.YtaofjgnhapnndaaW.PrintMore
set_option linter.unusedVariables false
set_option linter.unusedSimpArgs false
def spec_l3Insert.l0 : Nat → List ByteArray → ByteArray → Int → Option (List ByteArray)
 | 0, _, _, _ => none
 | k + 1, x0, x1, x5 => if x5 < (x0.length : Int) then (if 0 ≤ x5 then (if (Op.bytesLess ((rdOf ByteArray.empty x0 x5).toList) x1.toList) = true then (spec_l3Insert.l0 k x0 x1 (wrap64 (x5 + 1))) else (if (rdOf ByteArray.empty x0 x5).toList = x1.toList then (none) else ((some (([] : List ByteArray) : List ByteArray)).bind fun y103 => (if x5 ≤ (x0.length : Int) then (if y103.length + (x0.take (x5 : Int).toNat).length < 8796093022208 then ((some (y103 ++ (x0.take (x5 : Int).toNat) : List ByteArray)).bind fun y107 => ((some (([x1] : List ByteArray) : List ByteArray)).bind fun y110 => (if y107.length + y110.length < 8796093022208 then ((some (y107 ++ y110 : List ByteArray)).bind fun y113 => (if y113.length + (x0.drop (x5 : Int).toNat).length < 8796093022208 then (some (y113 ++ (x0.drop (x5 : Int).toNat))) else (none))) else (none)))) else (none)) else (none))))) else (none)) else ((some (([] : List ByteArray) : List ByteArray)).bind fun y120 => (if 0 ≤ x5 then (if x5 ≤ (x0.length : Int) then (if y120.length + (x0.take (x5 : Int).toNat).length < 8796093022208 then ((some (y120 ++ (x0.take (x5 : Int).toNat) : List ByteArray)).bind fun y124 => ((some (([x1] : List ByteArray) : List ByteArray)).bind fun y127 => (if y124.length + y127.length < 8796093022208 then ((some (y124 ++ y127 : List ByteArray)).bind fun y130 => (if y130.length + (x0.drop (x5 : Int).toNat).length < 8796093022208 then (some (y130 ++ (x0.drop (x5 : Int).toNat))) else (none))) else (none)))) else (none)) else (none)) else (none)))
def spec_l3Insert.f (k : Nat) (l0 : List ByteArray) (a1 : ByteArray) : Option (List ByteArray) := spec_l3Insert.l0 k l0 a1 0
def spec_l3Insert.T6 : Bool × List (List Nat × List Nat) := (true, [([], []), ([], []), ([], []), ([1, 2], [1, 2]), ([0, 3], [0, 3]), ([], []), ([5], [5]), ([4, 6, 4], [4, 6]), ([], []), ([], []), ([8, 9], [8, 9]), ([7, 10, 7], [7, 10]), ([11, 11, 0, 1, 2, 3, 4, 5, 6, 7, 8, 9, 10, 11], [11])])
def spec_l3Insert.B6 : List Nat := [0, 0, 0, 6, 15, 0, 32, 127, 0, 0, 768, 2047, 4095]
theorem spec_l3Insert.tab6 : rtab .any (opsOf Try.f106 6) = spec_l3Insert.T6 := by kernel_rfl
theorem spec_l3Insert.bits6 : waitsOk spec_l3Insert.T6.2 spec_l3Insert.B6 = true := by kernel_rfl
set_option maxHeartbeats 8000000 in
set_option maxRecDepth 100000 in
theorem spec_l3Insert.calls (k : Nat) (A0 : Option Addr) (c0 : Nat) (l0 : List ByteArray) (a1 : ByteArray) (r : List ByteArray) (w : World) (hr0 : Kd.C Kd.string w A0 l0.length l0) (hc0 : l0.length ≤ c0) (h : spec_l3Insert.f k l0 a1 = some r) :
  Calls Try.prog 106 #[.slice A0 l0.length c0, .string a1] w fun e w' => ∃ v0_ : Value, e = .returned (v0_) ∧ Kd.R Kd.string 9 w' w.heap.size (fun _ => True) v0_ r ∧ Below w.heap.size w w' := by
 have HR0 := am hr0
 have HC0 := am hc0
 clear hr0 hc0
 have HB := am (Below.refl w.heap.size w)
 have H : (spec_l3Insert.l0 k l0 a1 0) = some r := h
 clear h
 have H' := am H
 clear H
 go_enter Try.func106, Try.ntmps106
 go_wp2
 go_loopg [5] k (fun kq v5 w' => ∃ (x5_1 : Int), v5 = .int .i64 x5_1 ∧ Aside0 (spec_l3Insert.l0 kq l0 a1 x5_1 = some r) ∧ Aside0 (kq ≤ k) ∧ Aside0 (Below w.heap.size w w'))
 case atStart => exact ⟨(0), (pY83), H', ⟨Nat.le_refl _⟩, ⟨pY55⟩⟩
 case round =>
  clear H'
  obtain ⟨x5_1, rfl, HA, HK1, HB⟩ := hrel
  cases gk with
  | zero => exact absurd HA.out (by simp [spec_l3Insert.l0])
  | succ k1 =>
   have H := HA.out
   clear HA
   simp only [spec_l3Insert.l0] at H
   by_cases c3 : x5_1 < (l0.length : Int)
   ·rw [if_pos c3] at H
    have c3b0 : decide (x5_1 < (l0.length : Int)) = true := decide_eq_true c3
    clear c3
    by_cases c4 : 0 ≤ x5_1
    ·rw [if_pos c4] at H
     have c4b0 : decide (0 ≤ x5_1) = true := decide_eq_true c4
     clear c4
     by_cases c5 : (Op.bytesLess ((rdOf ByteArray.empty l0 x5_1).toList) a1.toList) = true
     ·rw [if_pos c5] at H
      have c5b0 : (Op.bytesLess ((rdOf ByteArray.empty l0 x5_1).toList) a1.toList) = true := c5
      clear c5
      have H' := am H
      clear H
      have p101 : 0 ≤ (x5_1 : Int) := of_decide_eq_true (pY82)
      have q101 : x5_1 < (l0.length : Int) := of_decide_eq_true (pY82)
      obtain ⟨ad101, e101, hx101_0⟩ := Kd.at_string HR0.1 x5_1 p101 q101
      cases e101
      replace hx101_0 := hX HB hx101_0
      replace p101 := eq_true p101
      replace q101 := eq_true q101
      go_wp2
      go_roundg k1
      case measure => have := HK1.out; omega
      case rel => exact ⟨(wrap64 (x5_1 + 1)), (pY83), H', ⟨by have := HK1.out; omega⟩, ⟨pY55⟩⟩
     ·rw [if_neg c5] at H
      have c5b0 : (Op.bytesLess ((rdOf ByteArray.empty l0 x5_1).toList) a1.toList) = false := by simpa using c5
      clear c5
      by_cases c6 : (rdOf ByteArray.empty l0 x5_1).toList = a1.toList
      ·rw [if_pos c6] at H
       have c6b0 : ((rdOf ByteArray.empty l0 x5_1).toList == a1.toList) = true := beq_iff_eq.mpr c6
       have c6b1 : ((rdOf ByteArray.empty l0 x5_1).toList != a1.toList) = false := bne_eq_false_iff_eq.mpr c6
       clear c6
       cases H
      ·rw [if_neg c6] at H
       have c6b0 : ((rdOf ByteArray.empty l0 x5_1).toList == a1.toList) = false := beq_eq_false_iff_ne.mpr c6
       have c6b1 : ((rdOf ByteArray.empty l0 x5_1).toList != a1.toList) = true := bne_iff_ne.mpr c6
       first | (replace H := bZ (([] : List ByteArray)) H; obtain ⟨y103, Ny103, H⟩ := H) | (obtain ⟨y103, Ny103⟩ := yv (([] : List ByteArray)); rw [← Ny103.1] at H)
       have c7b0 := eq_true (of_decide_eq_true (pY82) : 0 ≤ x5_1)
       by_cases c8 : x5_1 ≤ (l0.length : Int)
       ·rw [if_pos c8] at H
        have c8b0 := eq_true c8
        have c8b1 : decide (x5_1 ≤ (l0.length : Int)) = true := decide_eq_true c8
        clear c8
        by_cases c9 : y103.length + (l0.take (x5_1 : Int).toNat).length < 8796093022208
        ·rw [if_pos c9] at H
         have LMc9 := am c9
         clear c9
         obtain ⟨y107, Ny107, H⟩ := bY H
         obtain ⟨y110, Ny110, H⟩ := bY H
         by_cases c10 : y107.length + y110.length < 8796093022208
         ·rw [if_pos c10] at H
          have LMc10 := am c10
          clear c10
          obtain ⟨y113, Ny113, H⟩ := bY H
          have c11b0 := eq_true (of_decide_eq_true (pY82) : 0 ≤ x5_1)
          have c12b0 := eq_true (of_decide_eq_true (pY82) : x5_1 ≤ (l0.length : Int))
          by_cases c13 : y113.length + (l0.drop (x5_1 : Int).toNat).length < 8796093022208
          ·rw [if_pos c13] at H
           have LMc13 := am c13
           clear c13
           first | (replace H := bZ (y113 ++ (l0.drop (x5_1 : Int).toNat)) H; obtain ⟨y117, Ny117, H⟩ := H) | (obtain ⟨y117, Ny117⟩ := yv (y113 ++ (l0.drop (x5_1 : Int).toNat)); rw [← Ny117.1] at H)
           obtain rfl := Option.some.inj H
           have p101 : 0 ≤ (x5_1 : Int) := of_decide_eq_true (pY82)
           have q101 : x5_1 < (l0.length : Int) := of_decide_eq_true (pY82)
           obtain ⟨ad101, e101, hx101_0⟩ := Kd.at_string HR0.1 x5_1 p101 q101
           cases e101
           replace hx101_0 := hX HB hx101_0
           replace p101 := eq_true p101
           replace q101 := eq_true q101
           have p102 : 0 ≤ (x5_1 : Int) := of_decide_eq_true (pY82)
           have q102 : x5_1 < (l0.length : Int) := of_decide_eq_true (pY82)
           obtain ⟨ad102, e102, hx102_0⟩ := Kd.at_string HR0.1 x5_1 p102 q102
           obtain rfl : ad101 = ad102 := (by injection e102)
           replace hx102_0 := hX HB hx102_0
           replace p102 := eq_true p102
           replace q102 := eq_true q102
           try go_wp2
           replace HB := am (below_drew1 HB.1)
           obtain ⟨i015, hi015, _, hsz15, _⟩ := info_parts info9
           obtain ⟨hcut15, hA15, hC15⟩ := print_take_of (P := Try.prog) Value.string (⟨#[]⟩ : ByteArray) 23 9 .i64 Try.underlying23 hi015 hsz15 (some ad101) c0 l0 x5_1 (of_decide_eq_true (pY82)) (of_decide_eq_true (pY82)) HC0.1
           have HR106 := am (Kd.C_of_reads (h1 := fun _ => rfl) (hA15 _ (Kd.reads_of_C HR0.1)))
           have HC106 := am hC15
           clear hA15 hC15 hi015 hsz15
           obtain ⟨i016, hi016, _, hsz16, _⟩ := info_parts info9
           obtain ⟨A16, hcut16, hA16, hC16⟩ := print_drop_of (P := Try.prog) Value.string (⟨#[]⟩ : ByteArray) 23 9 .i64 Try.underlying23 hi016 hsz16 (some ad101) c0 l0 x5_1 (of_decide_eq_true (pY82)) (of_decide_eq_true (pY82)) HC0.1
           have HR116 := am (Kd.C_of_reads (h1 := fun _ => rfl) (hA16 _ (Kd.reads_of_C HR0.1)))
           have HC116 := am hC16
           clear hA16 hC16 hi016 hsz16
           refine sT (S := fun w' => True) [] 13 ⟨trivial⟩ (fun hHeld => ?_); refine with_tabW spec_l3Insert.tab6 spec_l3Insert.bits6 (fun HT_ HW_ => ?_)
           generalize wr.drew = w14 at HB HR106 HR116 hHeld ⊢
           refine pU 1 (some 34) ?_
           refine pU 2 (some 35) ?_
           refine pU 3 (some 36) ?_
           refine pU 5 (some 38) ?_
           refine pU 8 (some 41) ?_
           refine pU 9 (some 42) ?_
           refine pU 10 (some 43) ?_
           refine join_ (σ := Value × Value × Value) 3 (bz 13 1919) (fun s_ => [(33, s_.1), (37, s_.2.1), (39, s_.2.2)]) (fun s_ w' => (Kd.R Kd.string 9 w' w.heap.size (fun k_ => some k_ ≠ (s_.2.2 : Value).ownBlock) s_.2.1 y107) ∧ (Kd.R Kd.string 9 w' w.heap.size (fun k_ => some k_ ≠ (s_.2.1 : Value).ownBlock) s_.2.2 y110) ∧ (Below w.heap.size w w')) ?_ ?_
           rotate_left
           ·intro hCont
            refine two_ (i := 0) (j := 6) (Ni := some 33) (Nj := some 39) (bz 13 1839) (bz 13 1902) rfl rfl rfl rfl (two_of HT_.out (by kernel_rfl)) (by decide) (by decide) (fun K hK => ?_) (fun K hK => ?_)
            ·skip
             refine Kd.R_lit_step Kd.string _ 9 ?hg (N := 33) ?hd (xs := ([] : List ByteArray)) (inner := []) (ok := fun _ => True) (okp := fun _ => True) ?hr ?hp (fun _ hk => hk) trivial (Below.refl _ _) (Nat.le_refl _) (by simp) ?_; (case hd => rfl); (case hg => rfl); (case hr => first | (go_simp; done) | (go_simp; rfl)); (case hp => exact (Reps.none _ _))
             intro v104 w17 ho18 hb hg_ hnew_
             clear hg_ hnew_
             (first | rw [← Ny103.out] at ho18 | (simp only [Int.reduceToNat] at ho18; rw [← Ny103.out] at ho18))
             have HO105 := am (Kd.R_lower ho18 (below_size (pY55)))
             replace HB := bS pY55 hb
             clear hb ho18
             refine hK.out _ _ trivial (fun hHeld => ?_)
             clear hK K
             refine nM ?_
             refine two_ (i := 4) (j := 6) (Ni := some 37) (Nj := some 39) (bz 13 1855) (bz 13 1903) rfl rfl rfl rfl (two_of HT_.out (by kernel_rfl)) (by decide) (by decide) (fun K hK => ?_) (fun K hK => ?_)
             ·skip
              refine Kd.R_append_rows_step Kd.string (w0 := w) w.heap.size (by rfl) (.tmp 33) (.tmp 36) 23 9 (.string ⟨#[]⟩) 16 rfl Try.underlying23 info9 rfl (by decide) (by omega) v104 y103 (l0.take (x5_1 : Int).toNat) _ _ _ (fun _ => True) (fun _ => False) rfl rfl ?aO ?aR (fun _ _ h => h) (fun _ h => h.elim) ?aF ?aB ?aS ?aL ?_
              (case aR => (have e_ : (l0.take (x5_1 : Int).toNat).length = x5_1.toNat := (by rw [List.length_take]; have h_ : (x5_1 : Int) ≤ (l0.length : Int) := of_decide_eq_true (pY82); omega); have q_ := Kd.C_below HR106.1 HB.1; rw [e_] at q_; exact q_))
              (case aB => exact (pY55))
              (case aF => exact (fun _ _ => trivial))
              (case aO => exact (rR HO105.1))
              (case aS => exact (below_size (pY55)))
              (case aL => have := LMc9.out; have hlx_ := (show (l0.take (x5_1 : Int).toNat).length = x5_1.toNat from (by rw [List.length_take]; have h_ : (x5_1 : Int) ≤ (l0.length : Int) := of_decide_eq_true (pY82); omega)); omega)
              intro v108 w19 ho hb hg hat
              rw [← Ny107.out] at ho
              replace HB := am (hb)
              have HO109 := am (ho)
              clear HO105
              clear ho hb hg hat
              refine hK.out _ _ trivial (fun hHeld => ?_)
              clear hK K
              refine nM ?_
              refine oN 6 (some 39) fun K hK => ?_
              refine Kd.R_lit_step Kd.string _ 9 ?hg (N := 39) ?hd (xs := ([a1] : List ByteArray)) (inner := [.string a1]) (ok := fun _ => True) (okp := fun _ => True) ?hr ?hp (fun _ hk => hk) trivial (Below.refl _ _) (Nat.le_refl _) (by simp) ?_; (case hd => rfl); (case hg => rfl); (case hr => first | (go_simp; done) | (go_simp; rfl)); (case hp => exact (Reps.one (show Kd.M Kd.string _ _ _ a1 [.string a1] from rfl) (Reps.none _ _)))
              intro v111 w20 ho21 hb hg_ hnew_
              clear hg_ hnew_
              (first | rw [← Ny110.out] at ho21 | (simp only [Int.reduceToNat] at ho21; rw [← Ny110.out] at ho21))
              have HO112 := am (Kd.R_lower (Kd.R_new' ho21 (Kd.R_lt (rR HO109.1))) (below_size (pY55)))
              replace HO109 := am (Kd.R_elder' (rR HO109.1) (Kd.R_base ho21) hb)
              replace HB := bS pY55 hb
              clear hb ho21
              refine hK.out _ _ trivial (fun hHeld => ?_)
              clear hK K
              refine nM ?_
              exact norm_ (by simp only [putAll, Act.put, List.setIfInBounds_toArray, List.set_cons_zero, List.set_cons_succ]) (hCont (v104, v108, v111) _ ⟨(by refine rR ?_; exact Kd.R_mono HO109.1 (fun _ hk => hk.2)), (by refine rR ?_; exact Kd.R_mono HO112.1 (fun _ hk => hk.2)), (pY55)⟩)
             ·skip
              refine Kd.R_lit_step Kd.string _ 9 ?hg (N := 39) ?hd (xs := ([a1] : List ByteArray)) (inner := [.string a1]) (ok := fun _ => True) (okp := fun _ => True) ?hr ?hp (fun _ hk => hk) trivial (Below.refl _ _) (Nat.le_refl _) (by simp) ?_; (case hd => rfl); (case hg => rfl); (case hr => first | (go_simp; done) | (go_simp; rfl)); (case hp => exact (Reps.one (show Kd.M Kd.string _ _ _ a1 [.string a1] from rfl) (Reps.none _ _)))
              intro v111 w19 ho20 hb hg_ hnew_
              clear hg_ hnew_
              (first | rw [← Ny110.out] at ho20 | (simp only [Int.reduceToNat] at ho20; rw [← Ny110.out] at ho20))
              have HO112 := am (Kd.R_lower (Kd.R_new' ho20 (Kd.R_lt (rR HO105.1))) (below_size (pY55)))
              replace HO105 := am (Kd.R_elder' (rR HO105.1) (Kd.R_base ho20) hb)
              replace HB := bS pY55 hb
              clear hb ho20
              refine hK.out _ _ trivial (fun hHeld => ?_)
              clear hK K
              refine nM ?_
              refine oN 4 (some 37) fun K hK => ?_
              refine Kd.R_append_rows_step Kd.string (w0 := w) w.heap.size (by rfl) (.tmp 33) (.tmp 36) 23 9 (.string ⟨#[]⟩) 16 rfl Try.underlying23 info9 rfl (by decide) (by omega) v104 y103 (l0.take (x5_1 : Int).toNat) _ _ _ (fun k_ => some k_ ≠ (v111 : Value).ownBlock) (fun _ => False) rfl rfl ?aO ?aR (fun _ _ h => h) (fun _ h => h.elim) ?aF ?aB ?aS ?aL ?_
              (case aR => (have e_ : (l0.take (x5_1 : Int).toNat).length = x5_1.toNat := (by rw [List.length_take]; have h_ : (x5_1 : Int) ≤ (l0.length : Int) := of_decide_eq_true (pY82); omega); have q_ := Kd.C_below HR106.1 HB.1; rw [e_] at q_; exact q_))
              (case aB => exact (pY55))
              (case aF => exact (fun k_ hk => Kd.fresh' (Kd.R_lt (pY72)) k_ hk))
              (case aO => exact (by refine rR ?_; exact Kd.R_mono HO105.1 (fun _ hk => hk.2)))
              (case aS => exact (below_size (pY55)))
              (case aL => have := LMc9.out; have hlx_ := (show (l0.take (x5_1 : Int).toNat).length = x5_1.toNat from (by rw [List.length_take]; have h_ : (x5_1 : Int) ≤ (l0.length : Int) := of_decide_eq_true (pY82); omega)); omega)
              intro v108 w21 ho hb hg hat
              rw [← Ny107.out] at ho
              replace HO112 := am (Kd.R_after (ok := (fun _ => True)) (pY72) hg hat)
              replace HB := am (hb)
              have HO109 := am (ho)
              clear HO105
              clear ho hb hg hat
              refine hK.out _ _ trivial (fun hHeld => ?_)
              clear hK K
              refine nM ?_
              exact norm_ (by simp only [putAll, Act.put, List.setIfInBounds_toArray, List.set_cons_zero, List.set_cons_succ]) (hCont (v104, v108, v111) _ ⟨(rR HO109.1), (by refine rR ?_; exact Kd.R_mono HO112.1 (fun _ hk => hk.2)), (pY55)⟩)
            ·skip
             refine Kd.R_lit_step Kd.string _ 9 ?hg (N := 39) ?hd (xs := ([a1] : List ByteArray)) (inner := [.string a1]) (ok := fun _ => True) (okp := fun _ => True) ?hr ?hp (fun _ hk => hk) trivial (Below.refl _ _) (Nat.le_refl _) (by simp) ?_; (case hd => rfl); (case hg => rfl); (case hr => first | (go_simp; done) | (go_simp; rfl)); (case hp => exact (Reps.one (show Kd.M Kd.string _ _ _ a1 [.string a1] from rfl) (Reps.none _ _)))
             intro v111 w17 ho18 hb hg_ hnew_
             clear hg_ hnew_
             (first | rw [← Ny110.out] at ho18 | (simp only [Int.reduceToNat] at ho18; rw [← Ny110.out] at ho18))
             have HO112 := am (Kd.R_lower ho18 (below_size (pY55)))
             replace HB := bS pY55 hb
             clear hb ho18
             refine hK.out _ _ trivial (fun hHeld => ?_)
             clear hK K
             refine nM ?_
             refine oN 0 (some 33) fun K hK => ?_
             refine Kd.R_lit_step Kd.string _ 9 ?hg (N := 33) ?hd (xs := ([] : List ByteArray)) (inner := []) (ok := fun _ => True) (okp := fun _ => True) ?hr ?hp (fun _ hk => hk) trivial (Below.refl _ _) (Nat.le_refl _) (by simp) ?_; (case hd => rfl); (case hg => rfl); (case hr => first | (go_simp; done) | (go_simp; rfl)); (case hp => exact (Reps.none _ _))
             intro v104 w19 ho20 hb hg_ hnew_
             clear hg_ hnew_
             (first | rw [← Ny103.out] at ho20 | (simp only [Int.reduceToNat] at ho20; rw [← Ny103.out] at ho20))
             have HO105 := am (Kd.R_lower (Kd.R_new' ho20 (Kd.R_lt (pY72))) (below_size (pY55)))
             replace HO112 := am (Kd.R_elder' (pY72) (Kd.R_base ho20) hb)
             replace HB := bS pY55 hb
             clear hb ho20
             refine hK.out _ _ trivial (fun hHeld => ?_)
             clear hK K
             refine nM ?_
             refine oN 4 (some 37) fun K hK => ?_
             refine Kd.R_append_rows_step Kd.string (w0 := w) w.heap.size (by rfl) (.tmp 33) (.tmp 36) 23 9 (.string ⟨#[]⟩) 16 rfl Try.underlying23 info9 rfl (by decide) (by omega) v104 y103 (l0.take (x5_1 : Int).toNat) _ _ _ (fun k_ => some k_ ≠ (v111 : Value).ownBlock) (fun _ => False) rfl rfl ?aO ?aR (fun _ _ h => h) (fun _ h => h.elim) ?aF ?aB ?aS ?aL ?_
             (case aR => (have e_ : (l0.take (x5_1 : Int).toNat).length = x5_1.toNat := (by rw [List.length_take]; have h_ : (x5_1 : Int) ≤ (l0.length : Int) := of_decide_eq_true (pY82); omega); have q_ := Kd.C_below HR106.1 HB.1; rw [e_] at q_; exact q_))
             (case aB => exact (pY55))
             (case aF => exact (fun k_ hk => Kd.fresh' (Kd.R_lt (pY72)) k_ hk))
             (case aO => exact (by refine rR ?_; exact Kd.R_mono HO105.1 (fun _ hk => hk.2)))
             (case aS => exact (below_size (pY55)))
             (case aL => have := LMc9.out; have hlx_ := (show (l0.take (x5_1 : Int).toNat).length = x5_1.toNat from (by rw [List.length_take]; have h_ : (x5_1 : Int) ≤ (l0.length : Int) := of_decide_eq_true (pY82); omega)); omega)
             intro v108 w21 ho hb hg hat
             rw [← Ny107.out] at ho
             replace HO112 := am (Kd.R_after (ok := (fun _ => True)) (pY72) hg hat)
             replace HB := am (hb)
             have HO109 := am (ho)
             clear HO105
             clear ho hb hg hat
             refine hK.out _ _ trivial (fun hHeld => ?_)
             clear hK K
             refine nM ?_
             exact norm_ (by simp only [putAll, Act.put, List.setIfInBounds_toArray, List.set_cons_zero, List.set_cons_succ]) (hCont (v104, v108, v111) _ ⟨(rR HO109.1), (by refine rR ?_; exact Kd.R_mono HO112.1 (fun _ hk => hk.2)), (pY55)⟩)
           rintro ⟨v104, v108, v111⟩ w22 ⟨h0_, h1_, h2_⟩
           have HO109 : Aside0 (Kd.R Kd.string 9 w22 w.heap.size (fun k_ => some k_ ≠ (v111 : Value).ownBlock) v108 y107) := ⟨h0_⟩
           have HO112 : Aside0 (Kd.R Kd.string 9 w22 w.heap.size (fun k_ => some k_ ≠ (v108 : Value).ownBlock) v111 y110) := ⟨h1_⟩
           replace HB : Aside0 (Below w.heap.size w w22) := ⟨h2_⟩
           clear h0_ h1_ h2_
           have hHeld := trivial
           obtain ⟨Ao24, co24, eo24⟩ := Kd.R_slice HO112.1
           (first | subst eo24 | (injection eo24 with f1_ f2_ f3_; have f4_ := f1_.symm; have f5_ := f3_.symm; clear f1_ f2_ f3_; subst f4_; subst f5_))
           refine norm_ (a' := ?_) ?_ ?_
           rotate_left
           ·simp only [putAll, Act.put, List.setIfInBounds_toArray, List.set_cons_zero, List.set_cons_succ]
            rfl
           refine oN 7 (some 40) fun K hK => ?_
           refine Kd.R_append_rows_step Kd.string (w0 := w) w.heap.size (by rfl) (.tmp 37) (.tmp 39) 23 9 (.string ⟨#[]⟩) 16 rfl Try.underlying23 info9 rfl (by decide) (by omega) v108 y107 y110 _ _ _ (fun k_ => some k_ ≠ (.slice Ao24 y110.length co24 : Value).ownBlock) (fun _ => False) rfl rfl ?aO ?aR (fun _ _ h => h) (fun _ h => h.elim) ?aF ?aB ?aS ?aL ?_
           (case aR => repeat (first | exact (Kd.R_reads' HO112.1).2.2 | (with_reducible refine Kd.C_alloc ?_ _) | (with_reducible refine Kd.C_drewN ?_ _) | (with_reducible refine Kd.C_drew ?_)))
           (case aB => exact (pY55))
           (case aF => exact (fun k_ hk => Kd.fresh' (Kd.R_lt (pY72)) k_ hk))
           (case aO => exact (rR HO109.1))
           (case aS => exact (below_size (pY55)))
           (case aL => have := LMc10.out; omega)
           intro v114 w23 ho hb hg hat
           rw [← Ny113.out] at ho
           replace HO112 := am (Kd.R_after (ok := (fun _ => True)) (by refine rR ?_; exact Kd.R_mono HO112.1 (fun _ hk => ⟨trivial, hk⟩)) hg hat)
           replace HB := am (hb)
           have HO115 := am (ho)
           clear HO109
           clear ho hb hg hat
           refine hK.out _ _ trivial (fun hHeld => ?_)
           clear hK K
           refine nM ?_
           refine oN 11 (some 44) fun K hK => ?_
           refine Kd.R_append_rows_step Kd.string (w0 := w) w.heap.size (by rfl) (.tmp 40) (.tmp 43) 23 9 (.string ⟨#[]⟩) 16 rfl Try.underlying23 info9 rfl (by decide) (by omega) v114 y113 (l0.drop (x5_1 : Int).toNat) _ _ _ (fun k_ => some k_ ≠ (.slice Ao24 y110.length co24 : Value).ownBlock) (fun _ => False) rfl rfl ?aO ?aR (fun _ _ h => h) (fun _ h => h.elim) ?aF ?aB ?aS ?aL ?_
           (case aR => first | (rw [← show (l0.drop (x5_1 : Int).toNat).length = (l0.length - x5_1.toNat) from List.length_drop]; repeat (first | exact (Kd.C_below HR116.1 HB.1) | (with_reducible refine Kd.C_alloc ?_ _) | (with_reducible refine Kd.C_drewN ?_ _) | (with_reducible refine Kd.C_drew ?_))) | (repeat (first | exact (Kd.C_below HR116.1 HB.1) | (with_reducible refine Kd.C_alloc ?_ _) | (with_reducible refine Kd.C_drewN ?_ _) | (with_reducible refine Kd.C_drew ?_))))
           (case aB => exact (pY55))
           (case aF => exact (fun k_ hk => Kd.fresh' (Kd.R_lt (pY72)) k_ hk))
           (case aO => exact (rR HO115.1))
           (case aS => exact (below_size (pY55)))
           (case aL => have := LMc13.out; have hlx_ := (show (l0.drop (x5_1 : Int).toNat).length = (l0.length - x5_1.toNat) from List.length_drop); omega)
           intro v118 w25 ho hb hg hat
           rw [← Ny117.out] at ho
           replace HO112 := am (Kd.R_after (ok := (fun _ => True)) (pY72) hg hat)
           replace HB := am (hb)
           have HO119 := am (ho)
           clear HO115
           clear ho hb hg hat
           refine hK.out _ _ trivial (fun hHeld => ?_)
           clear hK K
           refine nM ?_
           refine pU 12 (some 4) ?_
           refine done_ (done_of HT_.out (by kernel_rfl)) ?_
           try go_wp2
           go_ret
           exact ⟨_, by first | rfl | (simp [errW_none, errW_some] <;> rfl) | (simp [*, errW_none, errW_some] <;> rfl), by refine rR ?_; exact Kd.R_mono HO119.1 (fun _ hk => trivial), pY55⟩
          ·rw [if_neg c13] at H
           exact absurd H (by simp)
         ·rw [if_neg c10] at H
          exact absurd H (by simp)
        ·rw [if_neg c9] at H
         exact absurd H (by simp)
       ·rw [if_neg c8] at H
        exact absurd H (by simp)
    ·rw [if_neg c4] at H
     exact absurd H (by simp)
   ·rw [if_neg c3] at H
    have c3b0 : decide (x5_1 < (l0.length : Int)) = false := decide_eq_false c3
    clear c3
    first | (replace H := bZ (([] : List ByteArray)) H; obtain ⟨y120, Ny120, H⟩ := H) | (obtain ⟨y120, Ny120⟩ := yv (([] : List ByteArray)); rw [← Ny120.1] at H)
    by_cases c26 : 0 ≤ x5_1
    ·rw [if_pos c26] at H
     have c26b0 := eq_true c26
     have c26b1 : decide (0 ≤ x5_1) = true := decide_eq_true c26
     clear c26
     by_cases c27 : x5_1 ≤ (l0.length : Int)
     ·rw [if_pos c27] at H
      have c27b0 := eq_true c27
      have c27b1 : decide (x5_1 ≤ (l0.length : Int)) = true := decide_eq_true c27
      clear c27
      by_cases c28 : y120.length + (l0.take (x5_1 : Int).toNat).length < 8796093022208
      ·rw [if_pos c28] at H
       have LMc28 := am c28
       clear c28
       obtain ⟨y124, Ny124, H⟩ := bY H
       obtain ⟨y127, Ny127, H⟩ := bY H
       by_cases c29 : y124.length + y127.length < 8796093022208
       ·rw [if_pos c29] at H
        have LMc29 := am c29
        clear c29
        obtain ⟨y130, Ny130, H⟩ := bY H
        have c30b0 := eq_true (of_decide_eq_true (pY82) : 0 ≤ x5_1)
        have c31b0 := eq_true (of_decide_eq_true (pY82) : x5_1 ≤ (l0.length : Int))
        by_cases c32 : y130.length + (l0.drop (x5_1 : Int).toNat).length < 8796093022208
        ·rw [if_pos c32] at H
         have LMc32 := am c32
         clear c32
         first | (replace H := bZ (y130 ++ (l0.drop (x5_1 : Int).toNat)) H; obtain ⟨y134, Ny134, H⟩ := H) | (obtain ⟨y134, Ny134⟩ := yv (y130 ++ (l0.drop (x5_1 : Int).toNat)); rw [← Ny134.1] at H)
         obtain rfl := Option.some.inj H
         try go_wp2
         replace HB := am (below_drew1 HB.1)
         obtain ⟨i034, hi034, _, hsz34, _⟩ := info_parts info9
         obtain ⟨hcut34, hA34, hC34⟩ := print_take_of (P := Try.prog) Value.string (⟨#[]⟩ : ByteArray) 23 9 .i64 Try.underlying23 hi034 hsz34 A0 c0 l0 x5_1 (of_decide_eq_true (pY82)) (of_decide_eq_true (pY82)) HC0.1
         have HR123 := am (Kd.C_of_reads (h1 := fun _ => rfl) (hA34 _ (Kd.reads_of_C HR0.1)))
         have HC123 := am hC34
         clear hA34 hC34 hi034 hsz34
         obtain ⟨i035, hi035, _, hsz35, _⟩ := info_parts info9
         obtain ⟨A35, hcut35, hA35, hC35⟩ := print_drop_of (P := Try.prog) Value.string (⟨#[]⟩ : ByteArray) 23 9 .i64 Try.underlying23 hi035 hsz35 A0 c0 l0 x5_1 (of_decide_eq_true (pY82)) (of_decide_eq_true (pY82)) HC0.1
         have HR133 := am (Kd.C_of_reads (h1 := fun _ => rfl) (hA35 _ (Kd.reads_of_C HR0.1)))
         have HC133 := am hC35
         clear hA35 hC35 hi035 hsz35
         refine sT (S := fun w' => True) [] 13 ⟨trivial⟩ (fun hHeld => ?_); refine with_tabW spec_l3Insert.tab6 spec_l3Insert.bits6 (fun HT_ HW_ => ?_)
         generalize wr.drew = w33 at HB HR123 HR133 hHeld ⊢
         refine pU 1 (some 34) ?_
         refine pU 2 (some 35) ?_
         refine pU 3 (some 36) ?_
         refine pU 5 (some 38) ?_
         refine pU 8 (some 41) ?_
         refine pU 9 (some 42) ?_
         refine pU 10 (some 43) ?_
         refine join_ (σ := Value × Value × Value) 3 (bz 13 1919) (fun s_ => [(33, s_.1), (37, s_.2.1), (39, s_.2.2)]) (fun s_ w' => (Kd.R Kd.string 9 w' w.heap.size (fun k_ => some k_ ≠ (s_.2.2 : Value).ownBlock) s_.2.1 y124) ∧ (Kd.R Kd.string 9 w' w.heap.size (fun k_ => some k_ ≠ (s_.2.1 : Value).ownBlock) s_.2.2 y127) ∧ (Below w.heap.size w w')) ?_ ?_
         rotate_left
         ·intro hCont
          refine two_ (i := 0) (j := 6) (Ni := some 33) (Nj := some 39) (bz 13 1839) (bz 13 1902) rfl rfl rfl rfl (two_of HT_.out (by kernel_rfl)) (by decide) (by decide) (fun K hK => ?_) (fun K hK => ?_)
          ·skip
           refine Kd.R_lit_step Kd.string _ 9 ?hg (N := 33) ?hd (xs := ([] : List ByteArray)) (inner := []) (ok := fun _ => True) (okp := fun _ => True) ?hr ?hp (fun _ hk => hk) trivial (Below.refl _ _) (Nat.le_refl _) (by simp) ?_; (case hd => rfl); (case hg => rfl); (case hr => first | (go_simp; done) | (go_simp; rfl)); (case hp => exact (Reps.none _ _))
           intro v121 w36 ho37 hb hg_ hnew_
           clear hg_ hnew_
           (first | rw [← Ny120.out] at ho37 | (simp only [Int.reduceToNat] at ho37; rw [← Ny120.out] at ho37))
           have HO122 := am (Kd.R_lower ho37 (below_size (pY55)))
           replace HB := bS pY55 hb
           clear hb ho37
           refine hK.out _ _ trivial (fun hHeld => ?_)
           clear hK K
           refine nM ?_
           refine two_ (i := 4) (j := 6) (Ni := some 37) (Nj := some 39) (bz 13 1855) (bz 13 1903) rfl rfl rfl rfl (two_of HT_.out (by kernel_rfl)) (by decide) (by decide) (fun K hK => ?_) (fun K hK => ?_)
           ·skip
            refine Kd.R_append_rows_step Kd.string (w0 := w) w.heap.size (by rfl) (.tmp 33) (.tmp 36) 23 9 (.string ⟨#[]⟩) 16 rfl Try.underlying23 info9 rfl (by decide) (by omega) v121 y120 (l0.take (x5_1 : Int).toNat) _ _ _ (fun _ => True) (fun _ => False) rfl rfl ?aO ?aR (fun _ _ h => h) (fun _ h => h.elim) ?aF ?aB ?aS ?aL ?_
            (case aR => (have e_ : (l0.take (x5_1 : Int).toNat).length = x5_1.toNat := (by rw [List.length_take]; have h_ : (x5_1 : Int) ≤ (l0.length : Int) := of_decide_eq_true (pY82); omega); have q_ := Kd.C_below HR123.1 HB.1; rw [e_] at q_; exact q_))
            (case aB => exact (pY55))
            (case aF => exact (fun _ _ => trivial))
            (case aO => exact (rR HO122.1))
            (case aS => exact (below_size (pY55)))
            (case aL => have := LMc28.out; have hlx_ := (show (l0.take (x5_1 : Int).toNat).length = x5_1.toNat from (by rw [List.length_take]; have h_ : (x5_1 : Int) ≤ (l0.length : Int) := of_decide_eq_true (pY82); omega)); omega)
            intro v125 w38 ho hb hg hat
            rw [← Ny124.out] at ho
            replace HB := am (hb)
            have HO126 := am (ho)
            clear HO122
            clear ho hb hg hat
            refine hK.out _ _ trivial (fun hHeld => ?_)
            clear hK K
            refine nM ?_
            refine oN 6 (some 39) fun K hK => ?_
            refine Kd.R_lit_step Kd.string _ 9 ?hg (N := 39) ?hd (xs := ([a1] : List ByteArray)) (inner := [.string a1]) (ok := fun _ => True) (okp := fun _ => True) ?hr ?hp (fun _ hk => hk) trivial (Below.refl _ _) (Nat.le_refl _) (by simp) ?_; (case hd => rfl); (case hg => rfl); (case hr => first | (go_simp; done) | (go_simp; rfl)); (case hp => exact (Reps.one (show Kd.M Kd.string _ _ _ a1 [.string a1] from rfl) (Reps.none _ _)))
            intro v128 w39 ho40 hb hg_ hnew_
            clear hg_ hnew_
            (first | rw [← Ny127.out] at ho40 | (simp only [Int.reduceToNat] at ho40; rw [← Ny127.out] at ho40))
            have HO129 := am (Kd.R_lower (Kd.R_new' ho40 (Kd.R_lt (rR HO126.1))) (below_size (pY55)))
            replace HO126 := am (Kd.R_elder' (rR HO126.1) (Kd.R_base ho40) hb)
            replace HB := bS pY55 hb
            clear hb ho40
            refine hK.out _ _ trivial (fun hHeld => ?_)
            clear hK K
            refine nM ?_
            exact norm_ (by simp only [putAll, Act.put, List.setIfInBounds_toArray, List.set_cons_zero, List.set_cons_succ]) (hCont (v121, v125, v128) _ ⟨(by refine rR ?_; exact Kd.R_mono HO126.1 (fun _ hk => hk.2)), (by refine rR ?_; exact Kd.R_mono HO129.1 (fun _ hk => hk.2)), (pY55)⟩)
           ·skip
            refine Kd.R_lit_step Kd.string _ 9 ?hg (N := 39) ?hd (xs := ([a1] : List ByteArray)) (inner := [.string a1]) (ok := fun _ => True) (okp := fun _ => True) ?hr ?hp (fun _ hk => hk) trivial (Below.refl _ _) (Nat.le_refl _) (by simp) ?_; (case hd => rfl); (case hg => rfl); (case hr => first | (go_simp; done) | (go_simp; rfl)); (case hp => exact (Reps.one (show Kd.M Kd.string _ _ _ a1 [.string a1] from rfl) (Reps.none _ _)))
            intro v128 w38 ho39 hb hg_ hnew_
            clear hg_ hnew_
            (first | rw [← Ny127.out] at ho39 | (simp only [Int.reduceToNat] at ho39; rw [← Ny127.out] at ho39))
            have HO129 := am (Kd.R_lower (Kd.R_new' ho39 (Kd.R_lt (rR HO122.1))) (below_size (pY55)))
            replace HO122 := am (Kd.R_elder' (rR HO122.1) (Kd.R_base ho39) hb)
            replace HB := bS pY55 hb
            clear hb ho39
            refine hK.out _ _ trivial (fun hHeld => ?_)
            clear hK K
            refine nM ?_
            refine oN 4 (some 37) fun K hK => ?_
            refine Kd.R_append_rows_step Kd.string (w0 := w) w.heap.size (by rfl) (.tmp 33) (.tmp 36) 23 9 (.string ⟨#[]⟩) 16 rfl Try.underlying23 info9 rfl (by decide) (by omega) v121 y120 (l0.take (x5_1 : Int).toNat) _ _ _ (fun k_ => some k_ ≠ (v128 : Value).ownBlock) (fun _ => False) rfl rfl ?aO ?aR (fun _ _ h => h) (fun _ h => h.elim) ?aF ?aB ?aS ?aL ?_
            (case aR => (have e_ : (l0.take (x5_1 : Int).toNat).length = x5_1.toNat := (by rw [List.length_take]; have h_ : (x5_1 : Int) ≤ (l0.length : Int) := of_decide_eq_true (pY82); omega); have q_ := Kd.C_below HR123.1 HB.1; rw [e_] at q_; exact q_))
            (case aB => exact (pY55))
            (case aF => exact (fun k_ hk => Kd.fresh' (Kd.R_lt (pY73)) k_ hk))
            (case aO => exact (by refine rR ?_; exact Kd.R_mono HO122.1 (fun _ hk => hk.2)))
            (case aS => exact (below_size (pY55)))
            (case aL => have := LMc28.out; have hlx_ := (show (l0.take (x5_1 : Int).toNat).length = x5_1.toNat from (by rw [List.length_take]; have h_ : (x5_1 : Int) ≤ (l0.length : Int) := of_decide_eq_true (pY82); omega)); omega)
            intro v125 w40 ho hb hg hat
            rw [← Ny124.out] at ho
            replace HO129 := am (Kd.R_after (ok := (fun _ => True)) (pY73) hg hat)
            replace HB := am (hb)
            have HO126 := am (ho)
            clear HO122
            clear ho hb hg hat
            refine hK.out _ _ trivial (fun hHeld => ?_)
            clear hK K
            refine nM ?_
            exact norm_ (by simp only [putAll, Act.put, List.setIfInBounds_toArray, List.set_cons_zero, List.set_cons_succ]) (hCont (v121, v125, v128) _ ⟨(rR HO126.1), (by refine rR ?_; exact Kd.R_mono HO129.1 (fun _ hk => hk.2)), (pY55)⟩)
          ·skip
           refine Kd.R_lit_step Kd.string _ 9 ?hg (N := 39) ?hd (xs := ([a1] : List ByteArray)) (inner := [.string a1]) (ok := fun _ => True) (okp := fun _ => True) ?hr ?hp (fun _ hk => hk) trivial (Below.refl _ _) (Nat.le_refl _) (by simp) ?_; (case hd => rfl); (case hg => rfl); (case hr => first | (go_simp; done) | (go_simp; rfl)); (case hp => exact (Reps.one (show Kd.M Kd.string _ _ _ a1 [.string a1] from rfl) (Reps.none _ _)))
           intro v128 w36 ho37 hb hg_ hnew_
           clear hg_ hnew_
           (first | rw [← Ny127.out] at ho37 | (simp only [Int.reduceToNat] at ho37; rw [← Ny127.out] at ho37))
           have HO129 := am (Kd.R_lower ho37 (below_size (pY55)))
           replace HB := bS pY55 hb
           clear hb ho37
           refine hK.out _ _ trivial (fun hHeld => ?_)
           clear hK K
           refine nM ?_
           refine oN 0 (some 33) fun K hK => ?_
           refine Kd.R_lit_step Kd.string _ 9 ?hg (N := 33) ?hd (xs := ([] : List ByteArray)) (inner := []) (ok := fun _ => True) (okp := fun _ => True) ?hr ?hp (fun _ hk => hk) trivial (Below.refl _ _) (Nat.le_refl _) (by simp) ?_; (case hd => rfl); (case hg => rfl); (case hr => first | (go_simp; done) | (go_simp; rfl)); (case hp => exact (Reps.none _ _))
           intro v121 w38 ho39 hb hg_ hnew_
           clear hg_ hnew_
           (first | rw [← Ny120.out] at ho39 | (simp only [Int.reduceToNat] at ho39; rw [← Ny120.out] at ho39))
           have HO122 := am (Kd.R_lower (Kd.R_new' ho39 (Kd.R_lt (pY73))) (below_size (pY55)))
           replace HO129 := am (Kd.R_elder' (pY73) (Kd.R_base ho39) hb)
           replace HB := bS pY55 hb
           clear hb ho39
           refine hK.out _ _ trivial (fun hHeld => ?_)
           clear hK K
           refine nM ?_
           refine oN 4 (some 37) fun K hK => ?_
           refine Kd.R_append_rows_step Kd.string (w0 := w) w.heap.size (by rfl) (.tmp 33) (.tmp 36) 23 9 (.string ⟨#[]⟩) 16 rfl Try.underlying23 info9 rfl (by decide) (by omega) v121 y120 (l0.take (x5_1 : Int).toNat) _ _ _ (fun k_ => some k_ ≠ (v128 : Value).ownBlock) (fun _ => False) rfl rfl ?aO ?aR (fun _ _ h => h) (fun _ h => h.elim) ?aF ?aB ?aS ?aL ?_
           (case aR => (have e_ : (l0.take (x5_1 : Int).toNat).length = x5_1.toNat := (by rw [List.length_take]; have h_ : (x5_1 : Int) ≤ (l0.length : Int) := of_decide_eq_true (pY82); omega); have q_ := Kd.C_below HR123.1 HB.1; rw [e_] at q_; exact q_))
           (case aB => exact (pY55))
           (case aF => exact (fun k_ hk => Kd.fresh' (Kd.R_lt (pY73)) k_ hk))
           (case aO => exact (by refine rR ?_; exact Kd.R_mono HO122.1 (fun _ hk => hk.2)))
           (case aS => exact (below_size (pY55)))
           (case aL => have := LMc28.out; have hlx_ := (show (l0.take (x5_1 : Int).toNat).length = x5_1.toNat from (by rw [List.length_take]; have h_ : (x5_1 : Int) ≤ (l0.length : Int) := of_decide_eq_true (pY82); omega)); omega)
           intro v125 w40 ho hb hg hat
           rw [← Ny124.out] at ho
           replace HO129 := am (Kd.R_after (ok := (fun _ => True)) (pY73) hg hat)
           replace HB := am (hb)
           have HO126 := am (ho)
           clear HO122
           clear ho hb hg hat
           refine hK.out _ _ trivial (fun hHeld => ?_)
           clear hK K
           refine nM ?_
           exact norm_ (by simp only [putAll, Act.put, List.setIfInBounds_toArray, List.set_cons_zero, List.set_cons_succ]) (hCont (v121, v125, v128) _ ⟨(rR HO126.1), (by refine rR ?_; exact Kd.R_mono HO129.1 (fun _ hk => hk.2)), (pY55)⟩)
         rintro ⟨v121, v125, v128⟩ w41 ⟨h0_, h1_, h2_⟩
         have HO126 : Aside0 (Kd.R Kd.string 9 w41 w.heap.size (fun k_ => some k_ ≠ (v128 : Value).ownBlock) v125 y124) := ⟨h0_⟩
         have HO129 : Aside0 (Kd.R Kd.string 9 w41 w.heap.size (fun k_ => some k_ ≠ (v125 : Value).ownBlock) v128 y127) := ⟨h1_⟩
         replace HB : Aside0 (Below w.heap.size w w41) := ⟨h2_⟩
         clear h0_ h1_ h2_
         have hHeld := trivial
         obtain ⟨Ao43, co43, eo43⟩ := Kd.R_slice HO129.1
         (first | subst eo43 | (injection eo43 with f1_ f2_ f3_; have f4_ := f1_.symm; have f5_ := f3_.symm; clear f1_ f2_ f3_; subst f4_; subst f5_))
         refine norm_ (a' := ?_) ?_ ?_
         rotate_left
         ·simp only [putAll, Act.put, List.setIfInBounds_toArray, List.set_cons_zero, List.set_cons_succ]
          rfl
         refine oN 7 (some 40) fun K hK => ?_
         refine Kd.R_append_rows_step Kd.string (w0 := w) w.heap.size (by rfl) (.tmp 37) (.tmp 39) 23 9 (.string ⟨#[]⟩) 16 rfl Try.underlying23 info9 rfl (by decide) (by omega) v125 y124 y127 _ _ _ (fun k_ => some k_ ≠ (.slice Ao43 y127.length co43 : Value).ownBlock) (fun _ => False) rfl rfl ?aO ?aR (fun _ _ h => h) (fun _ h => h.elim) ?aF ?aB ?aS ?aL ?_
         (case aR => repeat (first | exact (Kd.R_reads' HO129.1).2.2 | (with_reducible refine Kd.C_alloc ?_ _) | (with_reducible refine Kd.C_drewN ?_ _) | (with_reducible refine Kd.C_drew ?_)))
         (case aB => exact (pY55))
         (case aF => exact (fun k_ hk => Kd.fresh' (Kd.R_lt (pY73)) k_ hk))
         (case aO => exact (rR HO126.1))
         (case aS => exact (below_size (pY55)))
         (case aL => have := LMc29.out; omega)
         intro v131 w42 ho hb hg hat
         rw [← Ny130.out] at ho
         replace HO129 := am (Kd.R_after (ok := (fun _ => True)) (by refine rR ?_; exact Kd.R_mono HO129.1 (fun _ hk => ⟨trivial, hk⟩)) hg hat)
         replace HB := am (hb)
         have HO132 := am (ho)
         clear HO126
         clear ho hb hg hat
         refine hK.out _ _ trivial (fun hHeld => ?_)
         clear hK K
         refine nM ?_
         refine oN 11 (some 44) fun K hK => ?_
         refine Kd.R_append_rows_step Kd.string (w0 := w) w.heap.size (by rfl) (.tmp 40) (.tmp 43) 23 9 (.string ⟨#[]⟩) 16 rfl Try.underlying23 info9 rfl (by decide) (by omega) v131 y130 (l0.drop (x5_1 : Int).toNat) _ _ _ (fun k_ => some k_ ≠ (.slice Ao43 y127.length co43 : Value).ownBlock) (fun _ => False) rfl rfl ?aO ?aR (fun _ _ h => h) (fun _ h => h.elim) ?aF ?aB ?aS ?aL ?_
         (case aR => first | (rw [← show (l0.drop (x5_1 : Int).toNat).length = (l0.length - x5_1.toNat) from List.length_drop]; repeat (first | exact (Kd.C_below HR133.1 HB.1) | (with_reducible refine Kd.C_alloc ?_ _) | (with_reducible refine Kd.C_drewN ?_ _) | (with_reducible refine Kd.C_drew ?_))) | (repeat (first | exact (Kd.C_below HR133.1 HB.1) | (with_reducible refine Kd.C_alloc ?_ _) | (with_reducible refine Kd.C_drewN ?_ _) | (with_reducible refine Kd.C_drew ?_))))
         (case aB => exact (pY55))
         (case aF => exact (fun k_ hk => Kd.fresh' (Kd.R_lt (pY73)) k_ hk))
         (case aO => exact (rR HO132.1))
         (case aS => exact (below_size (pY55)))
         (case aL => have := LMc32.out; have hlx_ := (show (l0.drop (x5_1 : Int).toNat).length = (l0.length - x5_1.toNat) from List.length_drop); omega)
         intro v135 w44 ho hb hg hat
         rw [← Ny134.out] at ho
         replace HO129 := am (Kd.R_after (ok := (fun _ => True)) (pY73) hg hat)
         replace HB := am (hb)
         have HO136 := am (ho)
         clear HO132
         clear ho hb hg hat
         refine hK.out _ _ trivial (fun hHeld => ?_)
         clear hK K
         refine nM ?_
         refine pU 12 (some 4) ?_
         refine done_ (done_of HT_.out (by kernel_rfl)) ?_
         try go_wp2
         go_ret
         exact ⟨_, by first | rfl | (simp [errW_none, errW_some] <;> rfl) | (simp [*, errW_none, errW_some] <;> rfl), by refine rR ?_; exact Kd.R_mono HO136.1 (fun _ hk => trivial), pY55⟩
        ·rw [if_neg c32] at H
         exact absurd H (by simp)
       ·rw [if_neg c29] at H
        exact absurd H (by simp)
      ·rw [if_neg c28] at H
       exact absurd H (by simp)
     ·rw [if_neg c27] at H
      exact absurd H (by simp)
    ·rw [if_neg c26] at H
     exact absurd H (by simp)
def insF (a : ByteArray) : List ByteArray → Bool
 | [] => false
 | x :: t => if Op.bytesLess x.toList a.toList = true then insF a t else x.toList == a.toList
def spec_l3Insert.q0 : Nat → List ByteArray → ByteArray → Int → Option Bool
 | 0, _, _, _ => none
 | k + 1, x0, x1, x5 => if x5 < (x0.length : Int) then (if 0 ≤ x5 then (if (Op.bytesLess ((rdOf ByteArray.empty x0 x5).toList) x1.toList) = true then (spec_l3Insert.q0 k x0 x1 (wrap64 (x5 + 1))) else (if (rdOf ByteArray.empty x0 x5).toList = x1.toList then some true else none)) else none) else none
theorem spec_l3Insert.q0_of (l : List ByteArray) (a : ByteArray) (hl : l.length ≤ 9223372036854775807) : ∀ (n i : Nat), i + n = l.length → insF a (l.drop i) = true → spec_l3Insert.q0 (n + 1) l a i = some true
 | 0, i, hi, h => by rw [List.drop_eq_nil_of_le (by omega)] at h; cases h
 | n + 1, i, hi, h => by
  have hlt : i < l.length := by omega
  rw [List.drop_eq_getElem_cons hlt] at h
  have e1 : rdOf ByteArray.empty l (i : Int) = l[i] := by unfold rdOf; rw [Int.toNat_natCast]; simp [List.getD_eq_getElem?_getD, hlt]
  unfold spec_l3Insert.q0
  rw [if_pos (by omega), if_pos (by omega), e1]
  unfold insF at h
  by_cases hc : Op.bytesLess l[i].toList a.toList = true
  ·rw [if_pos hc] at h ⊢
   rw [show wrap64 ((i : Int) + 1) = ((i + 1 : Nat) : Int) by unfold wrap64; omega]
   exact spec_l3Insert.q0_of l a hl n (i + 1) (by omega) h
  ·rw [if_neg hc] at h ⊢
   rw [if_pos (by simpa using h)]
set_option maxHeartbeats 8000000 in
set_option maxRecDepth 100000 in
theorem spec_l3Insert.same (k : Nat) (A0 : Option Addr) (c0 : Nat) (l0 : List ByteArray) (a1 : ByteArray) (w : World) (hr0 : Kd.C Kd.string w A0 l0.length l0) (hc0 : l0.length ≤ c0) (h : spec_l3Insert.q0 k l0 a1 0 = some true) :
  Calls Try.prog 106 #[.slice A0 l0.length c0, .string a1] w fun e w' => e = .returned (.slice A0 l0.length c0) ∧ Below w.heap.size w w' := by
 have HR0 := am hr0
 have HC0 := am hc0
 clear hr0 hc0
 have HB := am (Below.refl w.heap.size w)
 have H := h
 clear h
 have H' := am H
 clear H
 go_enter Try.func106, Try.ntmps106
 go_wp2
 go_loopg [5] k (fun kq v5 w' => ∃ (x5_1 : Int), v5 = .int .i64 x5_1 ∧ Aside0 (spec_l3Insert.q0 kq l0 a1 x5_1 = some true) ∧ Aside0 (kq ≤ k) ∧ Aside0 (Below w.heap.size w w'))
 case atStart => exact ⟨(0), (pY83), H', ⟨Nat.le_refl _⟩, ⟨pY55⟩⟩
 case round =>
  clear H'
  obtain ⟨x5_1, rfl, HA, HK1, HB⟩ := hrel
  cases gk with
  | zero => exact absurd HA.out (by simp [spec_l3Insert.q0])
  | succ k1 =>
   have H := HA.out
   clear HA
   simp only [spec_l3Insert.q0] at H
   by_cases c3 : x5_1 < (l0.length : Int)
   ·rw [if_pos c3] at H
    have c3b0 : decide (x5_1 < (l0.length : Int)) = true := decide_eq_true c3
    clear c3
    by_cases c4 : 0 ≤ x5_1
    ·rw [if_pos c4] at H
     have c4b0 : decide (0 ≤ x5_1) = true := decide_eq_true c4
     clear c4
     by_cases c5 : (Op.bytesLess ((rdOf ByteArray.empty l0 x5_1).toList) a1.toList) = true
     ·rw [if_pos c5] at H
      have c5b0 : (Op.bytesLess ((rdOf ByteArray.empty l0 x5_1).toList) a1.toList) = true := c5
      clear c5
      have H' := am H
      clear H
      have p101 : 0 ≤ (x5_1 : Int) := of_decide_eq_true (pY82)
      have q101 : x5_1 < (l0.length : Int) := of_decide_eq_true (pY82)
      obtain ⟨ad101, e101, hx101_0⟩ := Kd.at_string HR0.1 x5_1 p101 q101
      cases e101
      replace hx101_0 := hX HB hx101_0
      replace p101 := eq_true p101
      replace q101 := eq_true q101
      go_wp2
      go_roundg k1
      case measure => have := HK1.out; omega
      case rel => exact ⟨(wrap64 (x5_1 + 1)), (pY83), H', ⟨by have := HK1.out; omega⟩, ⟨pY55⟩⟩
     ·rw [if_neg c5] at H
      have c5b0 : (Op.bytesLess ((rdOf ByteArray.empty l0 x5_1).toList) a1.toList) = false := by simpa using c5
      clear c5
      by_cases c6 : (rdOf ByteArray.empty l0 x5_1).toList = a1.toList
      ·rw [if_pos c6] at H
       have c6b0 : ((rdOf ByteArray.empty l0 x5_1).toList == a1.toList) = true := beq_iff_eq.mpr c6
       have c6b1 : ((rdOf ByteArray.empty l0 x5_1).toList != a1.toList) = false := bne_eq_false_iff_eq.mpr c6
       clear c6 H
       have p101 : 0 ≤ (x5_1 : Int) := of_decide_eq_true (pY82)
       have q101 : x5_1 < (l0.length : Int) := of_decide_eq_true (pY82)
       obtain ⟨ad101, e101, hx101_0⟩ := Kd.at_string HR0.1 x5_1 p101 q101
       cases e101
       replace hx101_0 := hX HB hx101_0
       replace p101 := eq_true p101
       replace q101 := eq_true q101
       have p102 : 0 ≤ (x5_1 : Int) := of_decide_eq_true (pY82)
       have q102 : x5_1 < (l0.length : Int) := of_decide_eq_true (pY82)
       obtain ⟨ad102, e102, hx102_0⟩ := Kd.at_string HR0.1 x5_1 p102 q102
       obtain rfl : ad101 = ad102 := (by injection e102)
       replace hx102_0 := hX HB hx102_0
       replace p102 := eq_true p102
       replace q102 := eq_true q102
       go_wp2
       go_ret
       exact ⟨rfl, pY55⟩
      ·rw [if_neg c6] at H; cases H
    ·rw [if_neg c4] at H; cases H
   ·rw [if_neg c3] at H; cases H
end Go.Proofs.Ytaofjgnhapnndaa.Q
namespace Go.Proofs.Ytaofjgnhapnndaa.Q
open Go.RowKit Go.Proofs.YtaofjgnhapnndaaW.PrintWords Go.Proofs.YtaofjgnhapnndaaW.PrintLast Go.Proofs.YtaofjgnhapnndaaW.PrintMore
set_option linter.unusedVariables false
set_option linter.unusedSimpArgs false
def spec_l1In.f (a0 : Int) (a1 : Int) (a2 : Int) : Option (Bool) := if a0 ≥ a1 then (some (decide (a0 ≤ a2))) else (some false)
set_option maxHeartbeats 8000000 in
set_option maxRecDepth 100000 in
theorem spec_l1In.calls (a0 : Int) (a1 : Int) (a2 : Int) (r : Bool) (w : World) (h : spec_l1In.f a0 a1 a2 = some r) :
  Calls Try.prog 111 #[.int .i64 a0, .int .i64 a1, .int .i64 a2] w fun e w' => e = .returned (.bool r) ∧ Drawn0 w w' := by
 have H : (if a0 ≥ a1 then (some (decide (a0 ≤ a2))) else (some false)) = some r := h
 clear h
 by_cases c4 : a0 ≥ a1
 ·rw [if_pos c4] at H
  have c4b0 : decide (a1 ≤ a0) = true := decide_eq_true c4
  clear c4
  obtain rfl := Option.some.inj H
  go_enter Try.func111, Try.ntmps111
  go_wp2
  go_ret
  exact ⟨by first | rfl | (simp; done) | (simp [*]; done), pY80⟩
 ·rw [if_neg c4] at H
  have c4b0 : decide (a1 ≤ a0) = false := decide_eq_false c4
  clear c4
  obtain rfl := Option.some.inj H
  go_enter Try.func111, Try.ntmps111
  go_wp2
  go_ret
  exact ⟨by first | rfl | (simp; done) | (simp [*]; done), pY80⟩
end Go.Proofs.Ytaofjgnhapnndaa.Q
namespace Go.Proofs.Ytaofjgnhapnndaa.Q
open Go.RowKit Go.Proofs.YtaofjgnhapnndaaW.PrintWords Go.Proofs.YtaofjgnhapnndaaW.PrintLast Go.Proofs.YtaofjgnhapnndaaW.PrintMore
set_option linter.unusedVariables false
set_option linter.unusedSimpArgs false
def spec_l1NameOk.l0 : Nat → ByteArray → Int → Option (Bool)
 | 0, _, _ => none
 | k + 1, x0, x3 => if x3 < (x0.size : Int) then (if 0 ≤ x3 then (if (bt x0 x3) ≥ 97 then (if (bt x0 x3) ≤ 122 then (spec_l1NameOk.l0 k x0 (wrap64 (x3 + 1))) else (if (bt x0 x3) ≥ 48 then (if (bt x0 x3) ≤ 57 then (spec_l1NameOk.l0 k x0 (wrap64 (x3 + 1))) else (if ((bt x0 x3) = 45) then (spec_l1NameOk.l0 k x0 (wrap64 (x3 + 1))) else (some false))) else (if ((bt x0 x3) = 45) then (spec_l1NameOk.l0 k x0 (wrap64 (x3 + 1))) else (some false)))) else (if (bt x0 x3) ≥ 48 then (if (bt x0 x3) ≤ 57 then (spec_l1NameOk.l0 k x0 (wrap64 (x3 + 1))) else (if ((bt x0 x3) = 45) then (spec_l1NameOk.l0 k x0 (wrap64 (x3 + 1))) else (some false))) else (if ((bt x0 x3) = 45) then (spec_l1NameOk.l0 k x0 (wrap64 (x3 + 1))) else (some false)))) else (none)) else (some true)
def spec_l1NameOk.f (k : Nat) (a0 : ByteArray) : Option (Bool) := (spec_l1In.f (a0.size : Int) 1 8).bind fun t101 => (if t101 = true then (spec_l1NameOk.l0 k a0 0) else (some false))
set_option maxHeartbeats 8000000 in
set_option maxRecDepth 100000 in
theorem spec_l1NameOk.calls (k : Nat) (a0 : ByteArray) (r : Bool) (w : World) (h : spec_l1NameOk.f k a0 = some r) :
  Calls Try.prog 70 #[.string a0] w fun e w' => e = .returned (.bool r) ∧ Drawn0 w w' := by
 have H : ((spec_l1In.f (a0.size : Int) 1 8).bind fun t101 => (if t101 = true then (spec_l1NameOk.l0 k a0 0) else (some false))) = some r := h
 clear h
 obtain ⟨t101, A2, H⟩ := bd H
 by_cases c3 : t101 = true
 ·subst c3
  replace H := iT H
  have H' := am H
  clear H
  go_enter Try.func70, Try.ntmps70
  go_wp2_with (first | ((with_reducible refine gate_callee (f := 111) rfl ?_); refine goesL_ (some 7) rfl rfl Try.func111 (by kernel_rfl) rfl #[.int .i64 (a0.size : Int), .int .i64 1, .int .i64 8] rfl (pY54) ?_; (with_reducible refine (spec_l1In.calls (a0.size : Int) 1 8 true _ A2.out).mono ?_); rintro e w' ⟨rfl, ⟨nd, rfl⟩⟩; refine ⟨_, rfl, ?_⟩))
  go_loopg [3] k (fun kq v3 w' => ∃ (x3_1 : Int), v3 = .int .i64 x3_1 ∧ Aside0 (spec_l1NameOk.l0 kq a0 x3_1 = some r) ∧ Aside0 (kq ≤ k) ∧ Drawn0 w w')
  case atStart => exact ⟨(0), (pY83), H', ⟨Nat.le_refl _⟩, pY80⟩
  case round =>
   clear H'
   try clear c3
   obtain ⟨x3_1, rfl, HA, HK1, ⟨m1, rfl⟩⟩ := hrel
   cases gk with
   | zero => exact absurd HA.out (by simp [spec_l1NameOk.l0])
   | succ k1 =>
    have H := HA.out
    clear HA
    simp only [spec_l1NameOk.l0] at H
    by_cases c4 : x3_1 < (a0.size : Int)
    ·rw [if_pos c4] at H
     have c4b0 : decide (x3_1 < (a0.size : Int)) = true := decide_eq_true c4
     clear c4
     by_cases c5 : 0 ≤ x3_1
     ·rw [if_pos c5] at H
      have c5b0 : decide (0 ≤ x3_1) = true := decide_eq_true c5
      clear c5
      by_cases c7 : (bt a0 x3_1) ≥ 97
      ·rw [if_pos c7] at H
       have c7b0 : decide (97 ≤ (bt a0 x3_1)) = true := decide_eq_true c7
       clear c7
       by_cases c8 : (bt a0 x3_1) ≤ 122
       ·rw [if_pos c8] at H
        have c8b0 : decide ((bt a0 x3_1) ≤ 122) = true := decide_eq_true c8
        clear c8
        have H' := am H
        clear H
        have p6 : 0 ≤ (x3_1 : Int) := of_decide_eq_true (pY82)
        have q6 : x3_1 < (a0.size : Int) := of_decide_eq_true (pY82)
        have hx6 := bt_at a0 x3_1
        replace p6 := eq_true p6
        replace q6 := eq_true q6
        go_wp2
        go_roundg k1
        case measure => have := HK1.out; omega
        case rel => exact ⟨(wrap64 (x3_1 + 1)), (pY83), H', ⟨by have := HK1.out; omega⟩, pY80⟩
       ·rw [if_neg c8] at H
        have c8b0 : decide ((bt a0 x3_1) ≤ 122) = false := decide_eq_false c8
        clear c8
        by_cases c9 : (bt a0 x3_1) ≥ 48
        ·rw [if_pos c9] at H
         have c9b0 : decide (48 ≤ (bt a0 x3_1)) = true := decide_eq_true c9
         clear c9
         by_cases c10 : (bt a0 x3_1) ≤ 57
         ·rw [if_pos c10] at H
          have c10b0 : decide ((bt a0 x3_1) ≤ 57) = true := decide_eq_true c10
          clear c10
          have H' := am H
          clear H
          have p6 : 0 ≤ (x3_1 : Int) := of_decide_eq_true (pY82)
          have q6 : x3_1 < (a0.size : Int) := of_decide_eq_true (pY82)
          have hx6 := bt_at a0 x3_1
          replace p6 := eq_true p6
          replace q6 := eq_true q6
          go_wp2
          go_roundg k1
          case measure => have := HK1.out; omega
          case rel => exact ⟨(wrap64 (x3_1 + 1)), (pY83), H', ⟨by have := HK1.out; omega⟩, pY80⟩
         ·rw [if_neg c10] at H
          have c10b0 : decide ((bt a0 x3_1) ≤ 57) = false := decide_eq_false c10
          clear c10
          by_cases c11 : ((bt a0 x3_1) = 45)
          ·rw [if_pos c11] at H
           have c11b0 : ((bt a0 x3_1) == 45) = true := beq_iff_eq.mpr c11
           have c11b1 : ((bt a0 x3_1) != 45) = false := bne_eq_false_iff_eq.mpr c11
           clear c11
           have H' := am H
           clear H
           have p6 : 0 ≤ (x3_1 : Int) := of_decide_eq_true (pY82)
           have q6 : x3_1 < (a0.size : Int) := of_decide_eq_true (pY82)
           have hx6 := bt_at a0 x3_1
           replace p6 := eq_true p6
           replace q6 := eq_true q6
           go_wp2
           go_roundg k1
           case measure => have := HK1.out; omega
           case rel => exact ⟨(wrap64 (x3_1 + 1)), (pY83), H', ⟨by have := HK1.out; omega⟩, pY80⟩
          ·rw [if_neg c11] at H
           have c11b0 : ((bt a0 x3_1) == 45) = false := beq_eq_false_iff_ne.mpr c11
           have c11b1 : ((bt a0 x3_1) != 45) = true := bne_iff_ne.mpr c11
           obtain rfl := Option.some.inj H
           have p6 : 0 ≤ (x3_1 : Int) := of_decide_eq_true (pY82)
           have q6 : x3_1 < (a0.size : Int) := of_decide_eq_true (pY82)
           have hx6 := bt_at a0 x3_1
           replace p6 := eq_true p6
           replace q6 := eq_true q6
           go_wp2
           go_ret
           exact ⟨by first | rfl | (simp; done) | (simp [*]; done), pY80⟩
        ·rw [if_neg c9] at H
         have c9b0 : decide (48 ≤ (bt a0 x3_1)) = false := decide_eq_false c9
         clear c9
         by_cases c12 : ((bt a0 x3_1) = 45)
         ·rw [if_pos c12] at H
          have c12b0 : ((bt a0 x3_1) == 45) = true := beq_iff_eq.mpr c12
          have c12b1 : ((bt a0 x3_1) != 45) = false := bne_eq_false_iff_eq.mpr c12
          clear c12
          have H' := am H
          clear H
          have p6 : 0 ≤ (x3_1 : Int) := of_decide_eq_true (pY82)
          have q6 : x3_1 < (a0.size : Int) := of_decide_eq_true (pY82)
          have hx6 := bt_at a0 x3_1
          replace p6 := eq_true p6
          replace q6 := eq_true q6
          go_wp2
          go_roundg k1
          case measure => have := HK1.out; omega
          case rel => exact ⟨(wrap64 (x3_1 + 1)), (pY83), H', ⟨by have := HK1.out; omega⟩, pY80⟩
         ·rw [if_neg c12] at H
          have c12b0 : ((bt a0 x3_1) == 45) = false := beq_eq_false_iff_ne.mpr c12
          have c12b1 : ((bt a0 x3_1) != 45) = true := bne_iff_ne.mpr c12
          obtain rfl := Option.some.inj H
          have p6 : 0 ≤ (x3_1 : Int) := of_decide_eq_true (pY82)
          have q6 : x3_1 < (a0.size : Int) := of_decide_eq_true (pY82)
          have hx6 := bt_at a0 x3_1
          replace p6 := eq_true p6
          replace q6 := eq_true q6
          go_wp2
          go_ret
          exact ⟨by first | rfl | (simp; done) | (simp [*]; done), pY80⟩
      ·rw [if_neg c7] at H
       have c7b0 : decide (97 ≤ (bt a0 x3_1)) = false := decide_eq_false c7
       clear c7
       by_cases c13 : (bt a0 x3_1) ≥ 48
       ·rw [if_pos c13] at H
        have c13b0 : decide (48 ≤ (bt a0 x3_1)) = true := decide_eq_true c13
        clear c13
        by_cases c14 : (bt a0 x3_1) ≤ 57
        ·rw [if_pos c14] at H
         have c14b0 : decide ((bt a0 x3_1) ≤ 57) = true := decide_eq_true c14
         clear c14
         have H' := am H
         clear H
         have p6 : 0 ≤ (x3_1 : Int) := of_decide_eq_true (pY82)
         have q6 : x3_1 < (a0.size : Int) := of_decide_eq_true (pY82)
         have hx6 := bt_at a0 x3_1
         replace p6 := eq_true p6
         replace q6 := eq_true q6
         go_wp2
         go_roundg k1
         case measure => have := HK1.out; omega
         case rel => exact ⟨(wrap64 (x3_1 + 1)), (pY83), H', ⟨by have := HK1.out; omega⟩, pY80⟩
        ·rw [if_neg c14] at H
         have c14b0 : decide ((bt a0 x3_1) ≤ 57) = false := decide_eq_false c14
         clear c14
         by_cases c15 : ((bt a0 x3_1) = 45)
         ·rw [if_pos c15] at H
          have c15b0 : ((bt a0 x3_1) == 45) = true := beq_iff_eq.mpr c15
          have c15b1 : ((bt a0 x3_1) != 45) = false := bne_eq_false_iff_eq.mpr c15
          clear c15
          have H' := am H
          clear H
          have p6 : 0 ≤ (x3_1 : Int) := of_decide_eq_true (pY82)
          have q6 : x3_1 < (a0.size : Int) := of_decide_eq_true (pY82)
          have hx6 := bt_at a0 x3_1
          replace p6 := eq_true p6
          replace q6 := eq_true q6
          go_wp2
          go_roundg k1
          case measure => have := HK1.out; omega
          case rel => exact ⟨(wrap64 (x3_1 + 1)), (pY83), H', ⟨by have := HK1.out; omega⟩, pY80⟩
         ·rw [if_neg c15] at H
          have c15b0 : ((bt a0 x3_1) == 45) = false := beq_eq_false_iff_ne.mpr c15
          have c15b1 : ((bt a0 x3_1) != 45) = true := bne_iff_ne.mpr c15
          obtain rfl := Option.some.inj H
          have p6 : 0 ≤ (x3_1 : Int) := of_decide_eq_true (pY82)
          have q6 : x3_1 < (a0.size : Int) := of_decide_eq_true (pY82)
          have hx6 := bt_at a0 x3_1
          replace p6 := eq_true p6
          replace q6 := eq_true q6
          go_wp2
          go_ret
          exact ⟨by first | rfl | (simp; done) | (simp [*]; done), pY80⟩
       ·rw [if_neg c13] at H
        have c13b0 : decide (48 ≤ (bt a0 x3_1)) = false := decide_eq_false c13
        clear c13
        by_cases c16 : ((bt a0 x3_1) = 45)
        ·rw [if_pos c16] at H
         have c16b0 : ((bt a0 x3_1) == 45) = true := beq_iff_eq.mpr c16
         have c16b1 : ((bt a0 x3_1) != 45) = false := bne_eq_false_iff_eq.mpr c16
         clear c16
         have H' := am H
         clear H
         have p6 : 0 ≤ (x3_1 : Int) := of_decide_eq_true (pY82)
         have q6 : x3_1 < (a0.size : Int) := of_decide_eq_true (pY82)
         have hx6 := bt_at a0 x3_1
         replace p6 := eq_true p6
         replace q6 := eq_true q6
         go_wp2
         go_roundg k1
         case measure => have := HK1.out; omega
         case rel => exact ⟨(wrap64 (x3_1 + 1)), (pY83), H', ⟨by have := HK1.out; omega⟩, pY80⟩
        ·rw [if_neg c16] at H
         have c16b0 : ((bt a0 x3_1) == 45) = false := beq_eq_false_iff_ne.mpr c16
         have c16b1 : ((bt a0 x3_1) != 45) = true := bne_iff_ne.mpr c16
         obtain rfl := Option.some.inj H
         have p6 : 0 ≤ (x3_1 : Int) := of_decide_eq_true (pY82)
         have q6 : x3_1 < (a0.size : Int) := of_decide_eq_true (pY82)
         have hx6 := bt_at a0 x3_1
         replace p6 := eq_true p6
         replace q6 := eq_true q6
         go_wp2
         go_ret
         exact ⟨by first | rfl | (simp; done) | (simp [*]; done), pY80⟩
     ·rw [if_neg c5] at H
      exact absurd H (by simp)
    ·rw [if_neg c4] at H
     have c4b0 : decide (x3_1 < (a0.size : Int)) = false := decide_eq_false c4
     clear c4
     obtain rfl := Option.some.inj H
     go_wp2
     go_ret
     exact ⟨by first | rfl | (simp; done) | (simp [*]; done), pY80⟩
 ·replace c3 := Bool.eq_false_iff.mpr c3
  subst c3
  replace H := iF H
  obtain rfl := Option.some.inj H
  go_enter Try.func70, Try.ntmps70
  go_wp2_with (first | ((with_reducible refine gate_callee (f := 111) rfl ?_); refine goesL_ (some 7) rfl rfl Try.func111 (by kernel_rfl) rfl #[.int .i64 (a0.size : Int), .int .i64 1, .int .i64 8] rfl (pY54) ?_; (with_reducible refine (spec_l1In.calls (a0.size : Int) 1 8 false _ A2.out).mono ?_); rintro e w' ⟨rfl, ⟨nd, rfl⟩⟩; refine ⟨_, rfl, ?_⟩))
  go_ret
  exact ⟨by first | rfl | (simp; done) | (simp [*]; done), pY80⟩
end Go.Proofs.Ytaofjgnhapnndaa.Q
namespace Go.Proofs.Ytaofjgnhapnndaa.Q
open Go.RowKit Go.Proofs.YtaofjgnhapnndaaW.PrintWords Go.Proofs.YtaofjgnhapnndaaW.PrintLast Go.Proofs.YtaofjgnhapnndaaW.PrintMore
set_option linter.unusedVariables false
set_option linter.unusedSimpArgs false
def spec_l1ThingsOk.l0 : Nat → List ByteArray → Int → Option (Bool)
 | 0, _, _ => none
 | k + 1, x0, x3 => if x3 < (x0.length : Int) then (if 0 ≤ x3 then ((spec_l1NameOk.f k (rdOf ByteArray.empty x0 x3)).bind fun t102 => (if t102 = true then (if x3 > 0 then (if 0 ≤ (wrap64 (x3 - 1)) then (if (wrap64 (x3 - 1)) < (x0.length : Int) then (if ((Op.bytesLess ((rdOf ByteArray.empty x0 (wrap64 (x3 - 1))).toList) ((rdOf ByteArray.empty x0 x3).toList)) = true) then (spec_l1ThingsOk.l0 k x0 (wrap64 (x3 + 1))) else (some false)) else (none)) else (none)) else (spec_l1ThingsOk.l0 k x0 (wrap64 (x3 + 1)))) else (some false))) else (none)) else (some true)
def spec_l1ThingsOk.f (k : Nat) (l0 : List ByteArray) : Option (Bool) := if (l0.length : Int) > 8 then (some false) else (spec_l1ThingsOk.l0 k l0 0)
set_option maxHeartbeats 8000000 in
set_option maxRecDepth 100000 in
theorem spec_l1ThingsOk.calls (k : Nat) (A0 : Option Addr) (c0 : Nat) (l0 : List ByteArray) (r : Bool) (w : World) (hr0 : Kd.C Kd.string w A0 l0.length l0) (hc0 : l0.length ≤ c0) (h : spec_l1ThingsOk.f k l0 = some r) :
  Calls Try.prog 69 #[.slice A0 l0.length c0] w fun e w' => e = .returned (.bool r) ∧ Drawn0 w w' := by
 have HR0 := am hr0
 have HC0 := am hc0
 clear hr0 hc0
 have H : (if (l0.length : Int) > 8 then (some false) else (spec_l1ThingsOk.l0 k l0 0)) = some r := h
 clear h
 by_cases c2 : (l0.length : Int) > 8
 ·rw [if_pos c2] at H
  have c2b0 : decide (8 < (l0.length : Int)) = true := decide_eq_true c2
  have c2b1 : decide (8 < l0.length) = true := decide_eq_true (by omega)
  clear c2
  obtain rfl := Option.some.inj H
  go_enter Try.func69, Try.ntmps69
  go_wp2
  repeat (go_quiet (fail); try go_wp2)
  go_ret
  exact ⟨by first | rfl | (simp; done) | (simp [*]; done), pY80⟩
 ·rw [if_neg c2] at H
  have c2b0 : decide (8 < (l0.length : Int)) = false := decide_eq_false c2
  have c2b1 : decide (8 < l0.length) = false := decide_eq_false (by omega)
  clear c2
  have H' := am H
  clear H
  go_enter Try.func69, Try.ntmps69
  go_wp2
  repeat (go_quiet (fail); try go_wp2)
  go_loopg [3] k (fun kq v3 w' => ∃ (x3_1 : Int), v3 = .int .i64 x3_1 ∧ Aside0 (spec_l1ThingsOk.l0 kq l0 x3_1 = some r) ∧ Aside0 (kq ≤ k) ∧ Drawn0 w w')
  case atStart => exact ⟨(0), (pY83), H', ⟨Nat.le_refl _⟩, pY80⟩
  case round =>
   clear H'
   try clear c2
   try clear c2b0
   try clear c2b1
   obtain ⟨x3_1, rfl, HA, HK1, ⟨m1, rfl⟩⟩ := hrel
   cases gk with
   | zero => exact absurd HA.out (by simp [spec_l1ThingsOk.l0])
   | succ k1 =>
    have H := HA.out
    clear HA
    simp only [spec_l1ThingsOk.l0] at H
    by_cases c3 : x3_1 < (l0.length : Int)
    ·rw [if_pos c3] at H
     have c3b0 : decide (x3_1 < (l0.length : Int)) = true := decide_eq_true c3
     clear c3
     by_cases c4 : 0 ≤ x3_1
     ·rw [if_pos c4] at H
      have c4b0 : decide (0 ≤ x3_1) = true := decide_eq_true c4
      clear c4
      obtain ⟨t102, A5, H⟩ := bd H
      by_cases c6 : t102 = true
      ·subst c6
       replace H := iT H
       by_cases c7 : x3_1 > 0
       ·rw [if_pos c7] at H
        have c7b0 : decide (0 < x3_1) = true := decide_eq_true c7
        clear c7
        obtain ⟨ji8, hji8⟩ : ∃ j_ : Int, (wrap64 (x3_1 - 1)) = j_ := ⟨_, rfl⟩
        replace H : (if 0 ≤ (ji8) then (if (ji8) < (l0.length : Int) then (if ((Op.bytesLess ((rdOf ByteArray.empty l0 (ji8)).toList) ((rdOf ByteArray.empty l0 x3_1).toList)) = true) then (spec_l1ThingsOk.l0 k1 l0 (wrap64 (x3_1 + 1))) else (some false)) else (none)) else (none)) = some r := by first | (rw [hji8] at H; exact H) | (simp only [hji8] at H ⊢; exact H)
        (try rw [hji8] at A5)
        have hji8w : (IntKind.i64.wrap (x3_1 - 1)) = ji8 := (i64_w _).trans hji8
        by_cases c9 : 0 ≤ (ji8)
        ·rw [if_pos c9] at H
         have c9b0 : decide (0 ≤ (ji8)) = true := decide_eq_true c9
         clear c9
         by_cases c10 : (ji8) < (l0.length : Int)
         ·rw [if_pos c10] at H
          have c10b0 : decide ((ji8) < (l0.length : Int)) = true := decide_eq_true c10
          clear c10
          by_cases c11 : ((Op.bytesLess ((rdOf ByteArray.empty l0 (ji8)).toList) ((rdOf ByteArray.empty l0 x3_1).toList)) = true)
          ·rw [if_pos c11] at H
           have c11b0 : (Op.bytesLess ((rdOf ByteArray.empty l0 (ji8)).toList) ((rdOf ByteArray.empty l0 x3_1).toList)) = true := c11
           clear c11
           have H' := am H
           clear H
           have p101 : 0 ≤ (x3_1 : Int) := of_decide_eq_true (pY82)
           have q101 : x3_1 < (l0.length : Int) := of_decide_eq_true (pY82)
           obtain ⟨ad101, e101, hx101_0⟩ := Kd.at_string HR0.1 x3_1 p101 q101
           cases e101
           replace p101 := eq_true p101
           replace q101 := eq_true q101
           go_wp2_with (first | (go_at_call 70; refine cM (spec_l1NameOk.calls k1 (rdOf ByteArray.empty l0 x3_1) true _ A5.out) ?_; rintro w' ⟨nd, rfl⟩; (try first | exact ⟨rfl, _, World.drewN_drewN _ _ _⟩ | exact ⟨rfl, _, Eq.trans (World.drewN_drewN _ _ _) (congrArg (World.drewN _) (Nat.add_assoc _ _ _))⟩); have p103 : 0 ≤ ((ji8) : Int) := of_decide_eq_true (pY82); have q103 : (ji8) < (l0.length : Int) := of_decide_eq_true (pY82); obtain ⟨ad103, e103, hx103_0⟩ := Kd.at_string HR0.1 (ji8) p103 q103; obtain rfl : ad101 = ad103 := (by injection e103); replace p103 := eq_true p103; replace q103 := eq_true q103; have p104 : 0 ≤ (x3_1 : Int) := of_decide_eq_true (pY82); have q104 : x3_1 < (l0.length : Int) := of_decide_eq_true (pY82); obtain ⟨ad104, e104, hx104_0⟩ := Kd.at_string HR0.1 x3_1 p104 q104; obtain rfl : ad101 = ad104 := (by injection e104); replace p104 := eq_true p104; replace q104 := eq_true q104))
           repeat (go_quiet (first | (go_at_call 70; (with_reducible refine (spec_l1NameOk.calls k1 (rdOf ByteArray.empty l0 x3_1) true _ A5.out).mono ?_); rintro e w' ⟨rfl, ⟨nd, rfl⟩⟩; (try first | exact ⟨rfl, _, World.drewN_drewN _ _ _⟩ | exact ⟨rfl, _, Eq.trans (World.drewN_drewN _ _ _) (congrArg (World.drewN _) (Nat.add_assoc _ _ _))⟩); have p103 : 0 ≤ ((ji8) : Int) := of_decide_eq_true (pY82); have q103 : (ji8) < (l0.length : Int) := of_decide_eq_true (pY82); obtain ⟨ad103, e103, hx103_0⟩ := Kd.at_string HR0.1 (ji8) p103 q103; obtain rfl : ad101 = ad103 := (by injection e103); replace p103 := eq_true p103; replace q103 := eq_true q103; have p104 : 0 ≤ (x3_1 : Int) := of_decide_eq_true (pY82); have q104 : x3_1 < (l0.length : Int) := of_decide_eq_true (pY82); obtain ⟨ad104, e104, hx104_0⟩ := Kd.at_string HR0.1 x3_1 p104 q104; obtain rfl : ad101 = ad104 := (by injection e104); replace p104 := eq_true p104; replace q104 := eq_true q104)); try go_wp2_with (first | (go_at_call 70; (with_reducible refine (spec_l1NameOk.calls k1 (rdOf ByteArray.empty l0 x3_1) true _ A5.out).mono ?_); rintro e w' ⟨rfl, ⟨nd, rfl⟩⟩; (try first | exact ⟨rfl, _, World.drewN_drewN _ _ _⟩ | exact ⟨rfl, _, Eq.trans (World.drewN_drewN _ _ _) (congrArg (World.drewN _) (Nat.add_assoc _ _ _))⟩); have p103 : 0 ≤ ((ji8) : Int) := of_decide_eq_true (pY82); have q103 : (ji8) < (l0.length : Int) := of_decide_eq_true (pY82); obtain ⟨ad103, e103, hx103_0⟩ := Kd.at_string HR0.1 (ji8) p103 q103; obtain rfl : ad101 = ad103 := (by injection e103); replace p103 := eq_true p103; replace q103 := eq_true q103; have p104 : 0 ≤ (x3_1 : Int) := of_decide_eq_true (pY82); have q104 : x3_1 < (l0.length : Int) := of_decide_eq_true (pY82); obtain ⟨ad104, e104, hx104_0⟩ := Kd.at_string HR0.1 x3_1 p104 q104; obtain rfl : ad101 = ad104 := (by injection e104); replace p104 := eq_true p104; replace q104 := eq_true q104)))
           go_roundg k1
           case measure => have := HK1.out; omega
           case rel => exact ⟨(wrap64 (x3_1 + 1)), (pY83), H', ⟨by have := HK1.out; omega⟩, pY80⟩
          ·rw [if_neg c11] at H
           have c11b0 : (Op.bytesLess ((rdOf ByteArray.empty l0 (ji8)).toList) ((rdOf ByteArray.empty l0 x3_1).toList)) = false := by simpa using c11
           clear c11
           obtain rfl := Option.some.inj H
           have p101 : 0 ≤ (x3_1 : Int) := of_decide_eq_true (pY82)
           have q101 : x3_1 < (l0.length : Int) := of_decide_eq_true (pY82)
           obtain ⟨ad101, e101, hx101_0⟩ := Kd.at_string HR0.1 x3_1 p101 q101
           cases e101
           replace p101 := eq_true p101
           replace q101 := eq_true q101
           go_wp2_with (first | (go_at_call 70; refine cM (spec_l1NameOk.calls k1 (rdOf ByteArray.empty l0 x3_1) true _ A5.out) ?_; rintro w' ⟨nd, rfl⟩; (try first | exact ⟨rfl, _, World.drewN_drewN _ _ _⟩ | exact ⟨rfl, _, Eq.trans (World.drewN_drewN _ _ _) (congrArg (World.drewN _) (Nat.add_assoc _ _ _))⟩); have p103 : 0 ≤ ((ji8) : Int) := of_decide_eq_true (pY82); have q103 : (ji8) < (l0.length : Int) := of_decide_eq_true (pY82); obtain ⟨ad103, e103, hx103_0⟩ := Kd.at_string HR0.1 (ji8) p103 q103; obtain rfl : ad101 = ad103 := (by injection e103); replace p103 := eq_true p103; replace q103 := eq_true q103; have p104 : 0 ≤ (x3_1 : Int) := of_decide_eq_true (pY82); have q104 : x3_1 < (l0.length : Int) := of_decide_eq_true (pY82); obtain ⟨ad104, e104, hx104_0⟩ := Kd.at_string HR0.1 x3_1 p104 q104; obtain rfl : ad101 = ad104 := (by injection e104); replace p104 := eq_true p104; replace q104 := eq_true q104))
           repeat (go_quiet (first | (go_at_call 70; (with_reducible refine (spec_l1NameOk.calls k1 (rdOf ByteArray.empty l0 x3_1) true _ A5.out).mono ?_); rintro e w' ⟨rfl, ⟨nd, rfl⟩⟩; (try first | exact ⟨rfl, _, World.drewN_drewN _ _ _⟩ | exact ⟨rfl, _, Eq.trans (World.drewN_drewN _ _ _) (congrArg (World.drewN _) (Nat.add_assoc _ _ _))⟩); have p103 : 0 ≤ ((ji8) : Int) := of_decide_eq_true (pY82); have q103 : (ji8) < (l0.length : Int) := of_decide_eq_true (pY82); obtain ⟨ad103, e103, hx103_0⟩ := Kd.at_string HR0.1 (ji8) p103 q103; obtain rfl : ad101 = ad103 := (by injection e103); replace p103 := eq_true p103; replace q103 := eq_true q103; have p104 : 0 ≤ (x3_1 : Int) := of_decide_eq_true (pY82); have q104 : x3_1 < (l0.length : Int) := of_decide_eq_true (pY82); obtain ⟨ad104, e104, hx104_0⟩ := Kd.at_string HR0.1 x3_1 p104 q104; obtain rfl : ad101 = ad104 := (by injection e104); replace p104 := eq_true p104; replace q104 := eq_true q104)); try go_wp2_with (first | (go_at_call 70; (with_reducible refine (spec_l1NameOk.calls k1 (rdOf ByteArray.empty l0 x3_1) true _ A5.out).mono ?_); rintro e w' ⟨rfl, ⟨nd, rfl⟩⟩; (try first | exact ⟨rfl, _, World.drewN_drewN _ _ _⟩ | exact ⟨rfl, _, Eq.trans (World.drewN_drewN _ _ _) (congrArg (World.drewN _) (Nat.add_assoc _ _ _))⟩); have p103 : 0 ≤ ((ji8) : Int) := of_decide_eq_true (pY82); have q103 : (ji8) < (l0.length : Int) := of_decide_eq_true (pY82); obtain ⟨ad103, e103, hx103_0⟩ := Kd.at_string HR0.1 (ji8) p103 q103; obtain rfl : ad101 = ad103 := (by injection e103); replace p103 := eq_true p103; replace q103 := eq_true q103; have p104 : 0 ≤ (x3_1 : Int) := of_decide_eq_true (pY82); have q104 : x3_1 < (l0.length : Int) := of_decide_eq_true (pY82); obtain ⟨ad104, e104, hx104_0⟩ := Kd.at_string HR0.1 x3_1 p104 q104; obtain rfl : ad101 = ad104 := (by injection e104); replace p104 := eq_true p104; replace q104 := eq_true q104)))
           go_ret
           exact ⟨by first | rfl | (simp; done) | (simp only [← hji8] <;> (first | rfl | simp)) | (simp [*]; done), pY80⟩
         ·rw [if_neg c10] at H
          exact absurd H (by simp)
        ·rw [if_neg c9] at H
         exact absurd H (by simp)
       ·rw [if_neg c7] at H
        have c7b0 : decide (0 < x3_1) = false := decide_eq_false c7
        clear c7
        have H' := am H
        clear H
        have p101 : 0 ≤ (x3_1 : Int) := of_decide_eq_true (pY82)
        have q101 : x3_1 < (l0.length : Int) := of_decide_eq_true (pY82)
        obtain ⟨ad101, e101, hx101_0⟩ := Kd.at_string HR0.1 x3_1 p101 q101
        cases e101
        replace p101 := eq_true p101
        replace q101 := eq_true q101
        go_wp2_with (first | (go_at_call 70; refine cM (spec_l1NameOk.calls k1 (rdOf ByteArray.empty l0 x3_1) true _ A5.out) ?_; rintro w' ⟨nd, rfl⟩; (try first | exact ⟨rfl, _, World.drewN_drewN _ _ _⟩ | exact ⟨rfl, _, Eq.trans (World.drewN_drewN _ _ _) (congrArg (World.drewN _) (Nat.add_assoc _ _ _))⟩)))
        repeat (go_quiet (first | (go_at_call 70; (with_reducible refine (spec_l1NameOk.calls k1 (rdOf ByteArray.empty l0 x3_1) true _ A5.out).mono ?_); rintro e w' ⟨rfl, ⟨nd, rfl⟩⟩; (try first | exact ⟨rfl, _, World.drewN_drewN _ _ _⟩ | exact ⟨rfl, _, Eq.trans (World.drewN_drewN _ _ _) (congrArg (World.drewN _) (Nat.add_assoc _ _ _))⟩))); try go_wp2_with (first | (go_at_call 70; (with_reducible refine (spec_l1NameOk.calls k1 (rdOf ByteArray.empty l0 x3_1) true _ A5.out).mono ?_); rintro e w' ⟨rfl, ⟨nd, rfl⟩⟩; (try first | exact ⟨rfl, _, World.drewN_drewN _ _ _⟩ | exact ⟨rfl, _, Eq.trans (World.drewN_drewN _ _ _) (congrArg (World.drewN _) (Nat.add_assoc _ _ _))⟩))))
        go_roundg k1
        case measure => have := HK1.out; omega
        case rel => exact ⟨(wrap64 (x3_1 + 1)), (pY83), H', ⟨by have := HK1.out; omega⟩, pY80⟩
      ·replace c6 := Bool.eq_false_iff.mpr c6
       subst c6
       replace H := iF H
       obtain rfl := Option.some.inj H
       have p101 : 0 ≤ (x3_1 : Int) := of_decide_eq_true (pY82)
       have q101 : x3_1 < (l0.length : Int) := of_decide_eq_true (pY82)
       obtain ⟨ad101, e101, hx101_0⟩ := Kd.at_string HR0.1 x3_1 p101 q101
       cases e101
       replace p101 := eq_true p101
       replace q101 := eq_true q101
       go_wp2_with (first | (go_at_call 70; refine cM (spec_l1NameOk.calls k1 (rdOf ByteArray.empty l0 x3_1) false _ A5.out) ?_; rintro w' ⟨nd, rfl⟩; (try first | exact ⟨rfl, _, World.drewN_drewN _ _ _⟩ | exact ⟨rfl, _, Eq.trans (World.drewN_drewN _ _ _) (congrArg (World.drewN _) (Nat.add_assoc _ _ _))⟩)))
       repeat (go_quiet (first | (go_at_call 70; (with_reducible refine (spec_l1NameOk.calls k1 (rdOf ByteArray.empty l0 x3_1) false _ A5.out).mono ?_); rintro e w' ⟨rfl, ⟨nd, rfl⟩⟩; (try first | exact ⟨rfl, _, World.drewN_drewN _ _ _⟩ | exact ⟨rfl, _, Eq.trans (World.drewN_drewN _ _ _) (congrArg (World.drewN _) (Nat.add_assoc _ _ _))⟩))); try go_wp2_with (first | (go_at_call 70; (with_reducible refine (spec_l1NameOk.calls k1 (rdOf ByteArray.empty l0 x3_1) false _ A5.out).mono ?_); rintro e w' ⟨rfl, ⟨nd, rfl⟩⟩; (try first | exact ⟨rfl, _, World.drewN_drewN _ _ _⟩ | exact ⟨rfl, _, Eq.trans (World.drewN_drewN _ _ _) (congrArg (World.drewN _) (Nat.add_assoc _ _ _))⟩))))
       go_ret
       exact ⟨by first | rfl | (simp; done) | (simp [*]; done), pY80⟩
     ·rw [if_neg c4] at H
      exact absurd H (by simp)
    ·rw [if_neg c3] at H
     have c3b0 : decide (x3_1 < (l0.length : Int)) = false := decide_eq_false c3
     clear c3
     obtain rfl := Option.some.inj H
     go_wp2
     repeat (go_quiet (fail); try go_wp2)
     go_ret
     exact ⟨by first | rfl | (simp; done) | (simp [*]; done), pY80⟩
end Go.Proofs.Ytaofjgnhapnndaa.Q
