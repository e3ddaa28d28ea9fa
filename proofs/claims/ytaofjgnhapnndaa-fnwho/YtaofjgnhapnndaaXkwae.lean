/- Texts that the row needs: words on memory and rows, the contracts of the functions it reaches, and the plain lemmas on what they compute. -/
import Derived.Test.YtaofjgnhapnndaaRows
import Derived.ProofKit
import Derived.Test.YtaofjgnhapnndaaXkwad
set_option maxHeartbeats 8000000
set_option maxRecDepth 100000
open Go.Proofs.YtaofjgnhapnndaaFkw
namespace Go.Proofs.Ytaofjgnhapnndaa.Q
open Go.RowKit Go.Proofs.YtaofjgnhapnndaaW.PrintWords Go.Proofs.YtaofjgnhapnndaaW.PrintLast Go.Proofs.YtaofjgnhapnndaaW.PrintMore
set_option linter.unusedVariables false
set_option linter.unusedSimpArgs false
theorem wordsSigns_word : ∀ (w r : List Char), (∀ c ∈ w, c ≠ Char.ofNat 32) → wordsSigns (w ++ Char.ofNat 32 :: r) = w :: wordsSigns r
  | [], r, _ => rfl
  | c :: w, r, h => by
    have ih := wordsSigns_word w r (fun d hd => h d (List.mem_cons_of_mem _ hd))
    have hc : c ≠ Char.ofNat 32 := h c List.mem_cons_self
    rw [List.cons_append, wordsSigns.eq_3 _ _ (fun e => hc e), ih]
theorem and_of {a b : Bool} (ha : a = true) (hb : b = true) : (a && b) = true := by rw [ha, hb]; rfl
noncomputable def orderSigns : List Char := List.map Char.ofNat [104, 97, 114, 110, 101, 115, 115, 32, 49, 97, 97, 102, 48, 49, 57, 50, 55, 56, 49, 54, 50, 51, 99, 56, 99, 53, 100, 102, 97, 53, 55, 48, 102, 97, 55, 55, 101, 56, 54, 50, 99, 52, 54, 54, 101, 56, 50, 100, 51, 52, 51, 49, 98, 99, 97, 97, 50, 56, 55, 52, 54, 55, 53, 101, 54, 101, 51, 56, 53, 55, 99, 50, 32, 99, 117, 116, 32, 97, 116, 32, 108, 111, 111, 112, 46, 101, 120, 97, 109, 112, 108, 101, 47, 109, 97, 108, 116, 115, 104, 97, 114, 101, 47, 108, 97, 119, 115, 46, 70, 110, 69, 120, 97, 99, 116, 67, 111, 110, 115, 116, 97, 110, 116, 115, 32, 108, 111, 111, 112, 46, 101, 120, 97, 109, 112, 108, 101, 47, 109, 97, 108, 116, 115, 104, 97, 114, 101, 47, 108, 97, 119, 115, 46, 70, 110, 69, 120, 97, 99, 116, 83, 104, 97, 114, 101, 66, 111, 111, 107, 79, 107, 32, 108, 111, 111, 112, 46, 101, 120, 97, 109, 112, 108, 101, 47, 109, 97, 108, 116, 115, 104, 97, 114, 101, 47, 108, 97, 119, 115, 46, 70, 110, 69, 120, 97, 99, 116, 83, 104, 97, 114, 101, 87, 104, 111, 32, 108, 111, 111, 112, 46, 101, 120, 97, 109, 112, 108, 101, 47, 109, 97, 108, 116, 115, 104, 97, 114, 101, 47, 108, 97, 119, 115, 46, 70, 110, 69, 120, 97, 99, 116, 83, 104, 97, 114, 101, 83, 116, 117, 99, 107, 32, 108, 111, 111, 112, 46, 101, 120, 97, 109, 112, 108, 101, 47, 109, 97, 108, 116, 115, 104, 97, 114, 101, 47, 108, 97, 119, 115, 46, 70, 110, 69, 120, 97, 99, 116, 83, 104, 97, 114, 101, 70, 105, 116, 115, 32, 108, 111, 111, 112, 46, 101, 120, 97, 109, 112, 108, 101, 47, 109, 97, 108, 116, 115, 104, 97, 114, 101, 47, 108, 97, 119, 115, 46, 70, 110, 69, 120, 97, 99, 116, 83, 104, 97, 114, 101, 83, 97, 102, 101, 32, 108, 111, 111, 112, 46, 101, 120, 97, 109, 112, 108, 101, 47, 109, 97, 108, 116, 115, 104, 97, 114, 101, 47, 108, 97, 119, 115, 46, 70, 110, 69, 120, 97, 99, 116, 83, 104, 97, 114, 101, 87, 97, 105, 116, 115, 32, 108, 111, 111, 112, 46, 101, 120, 97, 109, 112, 108, 101, 47, 109, 97, 108, 116, 115, 104, 97, 114, 101, 47, 108, 97, 119, 115, 46, 70, 110, 69, 120, 97, 99, 116, 83, 104, 97, 114, 101, 77, 111, 118, 101, 115, 32, 108, 111, 111, 112, 46, 101, 120, 97, 109, 112, 108, 101, 47, 109, 97, 108, 116, 115, 104, 97, 114, 101, 47, 108, 97, 119, 115, 46, 70, 110, 69, 120, 97, 99, 116, 83, 104, 97, 114, 101, 79, 114, 100, 101, 114, 32, 108, 111, 111, 112, 46, 101, 120, 97, 109, 112, 108, 101, 47, 109, 97, 108, 116, 115, 104, 97, 114, 101, 47, 108, 97, 119, 115, 46, 70, 110, 69, 120, 97, 99, 116, 83, 104, 97, 114, 101, 76, 101, 97, 118, 101, 32, 108, 111, 111, 112, 46, 101, 120, 97, 109, 112, 108, 101, 47, 109, 97, 108, 116, 115, 104, 97, 114, 101, 47, 108, 97, 119, 115, 46, 70, 110, 69, 120, 97, 99, 116, 83, 104, 97, 114, 101, 76, 101, 115, 115, 32, 108, 111, 111, 112, 46, 101, 120, 97, 109, 112, 108, 101, 47, 109, 97, 108, 116, 115, 104, 97, 114, 101, 47, 108, 97, 119, 115, 46, 70, 110, 87, 104, 111, 32, 108, 111, 111, 112, 46, 101, 120, 97, 109, 112, 108, 101, 47, 109, 97, 108, 116, 115, 104, 97, 114, 101, 47, 108, 97, 119, 115, 46, 70, 110, 79, 114, 100, 101, 114, 32, 108, 111, 111, 112, 46, 101, 120, 97, 109, 112, 108, 101, 47, 109, 97, 108, 116, 115, 104, 97, 114, 101, 47, 108, 97, 119, 115, 46, 70, 110, 77, 111, 118, 101, 115, 32, 108, 111, 111, 112, 46, 101, 120, 97, 109, 112, 108, 101, 47, 109, 97, 108, 116, 115, 104, 97, 114, 101, 47, 108, 97, 119, 115, 46, 70, 110, 69, 120, 97, 99, 116, 83, 104, 97, 114, 101, 69, 110, 116, 101, 114, 32, 108, 111, 111, 112, 46, 101, 120, 97, 109, 112, 108, 101, 47, 109, 97, 108, 116, 115, 104, 97, 114, 101, 47, 108, 97, 119, 115, 46, 70, 110, 69, 120, 97, 99, 116, 83, 104, 97, 114, 101, 65, 115, 107, 32, 108, 111, 111, 112, 46, 101, 120, 97, 109, 112, 108, 101, 47, 109, 97, 108, 116, 115, 104, 97, 114, 101, 47, 108, 97, 119, 115, 46, 70, 110, 65, 115, 107, 32, 108, 111, 111, 112, 46, 101, 120, 97, 109, 112, 108, 101, 47, 109, 97, 108, 116, 115, 104, 97, 114, 101, 47, 108, 97, 119, 115, 46, 70, 110, 76, 101, 115, 115]
theorem order_eq : Try.prog.initOrder = String.ofList orderSigns := by kernel_rfl
theorem order_list : Try.prog.initOrder.toList = orderSigns := (congrArg String.toList order_eq).trans String.toList_ofList
noncomputable def headWord : List Char := (orderSigns.drop 8).take 64
theorem head_eq : orderSigns = "harness".toList ++ Char.ofNat 32 :: (headWord ++ Char.ofNat 32 :: ("cut".toList ++ Char.ofNat 32 :: orderSigns.drop 77)) := by kernel_rfl
theorem headWord_all : (headWord.all fun c => c != Char.ofNat 32) = true := by kernel_rfl
theorem headWord_sum : isSumSigns headWord = true := by kernel_rfl
theorem main_word : ∃ R, behindMainWord (wordsSigns Try.prog.initOrder.toList) = "cut".toList :: R := by
  refine ⟨wordsSigns (orderSigns.drop 77), ?_⟩
  have h1 : ∀ c ∈ "harness".toList, c ≠ Char.ofNat 32 := by decide
  have h3 : ∀ c ∈ "cut".toList, c ≠ Char.ofNat 32 := by decide
  have h2 : ∀ c ∈ headWord, c ≠ Char.ofNat 32 := fun c hc => by
    have := List.all_eq_true.1 headWord_all c hc
    simpa using this
  have e : wordsSigns Try.prog.initOrder.toList = "harness".toList :: headWord :: "cut".toList :: wordsSigns (orderSigns.drop 77) :=
    (congrArg wordsSigns (order_list.trans head_eq)).trans (by rw [wordsSigns_word _ _ h1, wordsSigns_word _ _ h2, wordsSigns_word _ _ h3])
  rw [e]
  generalize wordsSigns (orderSigns.drop 77) = R
  unfold behindMainWord
  exact if_pos (by rw [headWord_sum, beq_self_eq_true]; rfl)
theorem l_cut : "cut".toList = [Char.ofNat 99, Char.ofNat 117, Char.ofNat 116] := (String.toList_ofList : (String.ofList [Char.ofNat 99, Char.ofNat 117, Char.ofNat 116]).toList = _)
theorem l_gc : "gc".toList = [Char.ofNat 103, Char.ofNat 99] := (String.toList_ofList : (String.ofList [Char.ofNat 103, Char.ofNat 99]).toList = _)
theorem l_spec : "spec".toList = [Char.ofNat 115, Char.ofNat 112, Char.ofNat 101, Char.ofNat 99] := (String.toList_ofList : (String.ofList [Char.ofNat 115, Char.ofNat 112, Char.ofNat 101, Char.ofNat 99]).toList = _)
theorem l_carried : "carried".toList = [Char.ofNat 99, Char.ofNat 97, Char.ofNat 114, Char.ofNat 114, Char.ofNat 105, Char.ofNat 101, Char.ofNat 100] := (String.toList_ofList : (String.ofList [Char.ofNat 99, Char.ofNat 97, Char.ofNat 114, Char.ofNat 114, Char.ofNat 105, Char.ofNat 101, Char.ofNat 100]).toList = _)
theorem n_gc : ("cut".toList == "gc".toList) = false := by rw [l_cut, l_gc]; decide
theorem n_spec : ("cut".toList == "spec".toList) = false := by rw [l_cut, l_spec]; decide
theorem n_carried : ("cut".toList == "carried".toList) = false := by rw [l_cut, l_carried]; decide
theorem y_cut : ("cut".toList == "cut".toList) = true := beq_self_eq_true _
theorem n_carried' (R : List (List Char)) : (("cut".toList :: R).head? == some "carried".toList) = false := by
  rw [List.head?_cons, l_cut, l_carried]; decide
theorem y_cut' (R : List (List Char)) : (("cut".toList :: R).head? == some "cut".toList) = true := by rw [List.head?_cons]; exact beq_self_eq_true _
theorem strip_cut (R : List (List Char)) : stripLifts liftWords ("cut".toList :: R) = ([], "cut".toList :: R) := by rfl
theorem laysLater_no : Try.prog.laysLater = false := by kernel_rfl
theorem bearsReflect_no : Try.prog.bearsReflect = false := by kernel_rfl
theorem doorFits_nil : Try.prog.doorFits [] = true := by kernel_rfl
theorem mayEnter_of (P : Program) (R : List (List Char)) (h : behindMainWord (wordsSigns P.initOrder.toList) = "cut".toList :: R) (h1 : P.laysLater = false) (h2 : P.bearsReflect = false) (h3 : P.doorFits [] = true) : P.mayEnter = true := by
  unfold Program.mayEnter
  rw [h]
  simp only [strip_cut, h1, h2, h3, n_gc, n_spec, n_carried, y_cut']
  rfl
theorem headLifts_of (P : Program) (R : List (List Char)) (h : behindMainWord (wordsSigns P.initOrder.toList) = "cut".toList :: R) : P.headLifts = [] := by
  unfold Program.headLifts
  rw [h, strip_cut]
  exact ite_self _
theorem liftsFinal_of (P : Program) (R : List (List Char)) (h : behindMainWord (wordsSigns P.initOrder.toList) = "cut".toList :: R) : P.liftsFinal = false := by
  unfold Program.liftsFinal
  rw [headLifts_of P R h, h]
  simp only [n_carried']
  rfl
theorem make_of (P : Program) (R : List (List Char)) (h : behindMainWord (wordsSigns P.initOrder.toList) = "cut".toList :: R) : P.make = some .cut := by
  unfold Program.make
  rw [h]
  simp only [n_gc, n_spec, y_cut]
  rfl
theorem mayEnter_yes : Try.prog.mayEnter = true := by
  obtain ⟨R, h⟩ := main_word
  exact mayEnter_of _ R h laysLater_no bearsReflect_no doorFits_nil
theorem liftsFinal_no : Try.prog.liftsFinal = false := by
  obtain ⟨R, h⟩ := main_word
  exact liftsFinal_of _ R h
theorem make_cut : Try.prog.make = some .cut := by
  obtain ⟨R, h⟩ := main_word
  exact make_of _ R h
def spec_l1In.f (a0 : Int) (a1 : Int) (a2 : Int) : Option (Bool) := if a0 ≥ a1 then (some (decide (a0 ≤ a2))) else (some false)
theorem spec_l1In.calls (a0 : Int) (a1 : Int) (a2 : Int) (r : Bool) (w : World) (h : spec_l1In.f a0 a1 a2 = some r) :
  Calls Try.prog 111 #[.int .i64 a0, .int .i64 a1, .int .i64 a2] w fun e w' => e = .returned (.bool r) ∧ Drawn0 w w' := by
 unfold spec_l1In.f at h
 have H := h
 clear h
 by_cases c4 : a0 ≥ a1
 ·rw [if_pos c4] at H
  have c4b0 : decide (a1 ≤ a0) = true := decide_eq_true c4
  clear c4
  obtain rfl := Option.some.inj H
  go_enter Try.func111, Try.ntmps111
  go_wp2
  go_ret
  exact ⟨by first | rfl | (simp; done) | (simp [*]; done), pY133⟩
 ·rw [if_neg c4] at H
  have c4b0 : decide (a1 ≤ a0) = false := decide_eq_false c4
  clear c4
  obtain rfl := Option.some.inj H
  go_enter Try.func111, Try.ntmps111
  go_wp2
  go_ret
  exact ⟨by first | rfl | (simp; done) | (simp [*]; done), pY133⟩
def spec_l1NameOk.l0 : Nat → ByteArray → Int → Option (Bool)
 | 0, _, _ => none
 | k + 1, x0, x3 => if x3 < (x0.size : Int) then (if 0 ≤ x3 then (if (bt x0 x3) ≥ 97 then (if (bt x0 x3) ≤ 122 then (spec_l1NameOk.l0 k x0 (wrap64 (x3 + 1))) else (if (bt x0 x3) ≥ 48 then (if (bt x0 x3) ≤ 57 then (spec_l1NameOk.l0 k x0 (wrap64 (x3 + 1))) else (if ((bt x0 x3) = 45) then (spec_l1NameOk.l0 k x0 (wrap64 (x3 + 1))) else (some false))) else (if ((bt x0 x3) = 45) then (spec_l1NameOk.l0 k x0 (wrap64 (x3 + 1))) else (some false)))) else (if (bt x0 x3) ≥ 48 then (if (bt x0 x3) ≤ 57 then (spec_l1NameOk.l0 k x0 (wrap64 (x3 + 1))) else (if ((bt x0 x3) = 45) then (spec_l1NameOk.l0 k x0 (wrap64 (x3 + 1))) else (some false))) else (if ((bt x0 x3) = 45) then (spec_l1NameOk.l0 k x0 (wrap64 (x3 + 1))) else (some false)))) else (none)) else (some true)
def spec_l1NameOk.f (k : Nat) (a0 : ByteArray) : Option (Bool) := (spec_l1In.f (a0.size : Int) 1 8).bind fun t101 => (if t101 = true then (spec_l1NameOk.l0 k a0 0) else (some false))
theorem spec_l1NameOk.calls (k : Nat) (a0 : ByteArray) (r : Bool) (w : World) (h : spec_l1NameOk.f k a0 = some r) :
  Calls Try.prog 70 #[.string a0] w fun e w' => e = .returned (.bool r) ∧ Drawn0 w w' := by
 unfold spec_l1NameOk.f at h
 have H := h
 clear h
 obtain ⟨t101, A2, H⟩ := bd H
 refine tC H ?_ ?_ <;> clear H <;> intro c3 H <;> subst c3
 ·have H' := am H
  clear H
  go_enter Try.func70, Try.ntmps70
  go_wp2_with (first | ((with_reducible refine gC 111 ?_); refine cQ (some 7) Try.func111 (spec_l1In.calls (a0.size : Int) 1 8 true _ A2.out) ?_; rintro w' ⟨nd, rfl⟩))
  go_loopg [3] k (fun kq v3 w' => ∃ (x3_1 : Int), v3 = .int .i64 x3_1 ∧ Aside0 (spec_l1NameOk.l0 kq a0 x3_1 = some r) ∧ Aside0 (kq ≤ k) ∧ Drawn0 w w')
  case atStart => exact ⟨(0), (pY136), H', ⟨Nat.le_refl _⟩, pY133⟩
  case round =>
   clear H'
   try clear c3
   obtain ⟨x3_1, rfl, HA, HK1, ⟨m1, rfl⟩⟩ := hrel
   cases gk with
   | zero => exact absurd HA.out (by simp [spec_l1NameOk.l0])
   | succ k1 =>
    have H := HA.out
    clear HA
    simp only [spec_l1NameOk.l0] at H
    refine ic H ?_ ?_ <;> clear H <;> intro c4b0 H
    ·obtain ⟨c5b0, H⟩ := cN H
     by_cases c7 : (bt a0 x3_1) ≥ 97
     ·rw [if_pos c7] at H
      have c7b0 : decide (97 ≤ (bt a0 x3_1)) = true := decide_eq_true c7
      clear c7
      refine ic H ?_ ?_ <;> clear H <;> intro c8b0 H
      ·have H' := am H
       clear H
       have p6 : 0 ≤ (x3_1 : Int) := oT
       have q6 : x3_1 < (a0.size : Int) := oT
       have hx6 := bt_at a0 x3_1
       replace p6 := eq_true p6
       replace q6 := eq_true q6
       go_wp2
       go_roundg k1
       case measure => have := HK1.out; omega
       case rel => exact ⟨(wrap64 (x3_1 + 1)), (pY136), H', ⟨by have := HK1.out; omega⟩, pY133⟩
      ·by_cases c9 : (bt a0 x3_1) ≥ 48
       ·rw [if_pos c9] at H
        have c9b0 : decide (48 ≤ (bt a0 x3_1)) = true := decide_eq_true c9
        clear c9
        refine ic H ?_ ?_ <;> clear H <;> intro c10b0 H
        ·have H' := am H
         clear H
         have p6 : 0 ≤ (x3_1 : Int) := oT
         have q6 : x3_1 < (a0.size : Int) := oT
         have hx6 := bt_at a0 x3_1
         replace p6 := eq_true p6
         replace q6 := eq_true q6
         go_wp2
         go_roundg k1
         case measure => have := HK1.out; omega
         case rel => exact ⟨(wrap64 (x3_1 + 1)), (pY136), H', ⟨by have := HK1.out; omega⟩, pY133⟩
        ·by_cases c11 : ((bt a0 x3_1) = 45)
         ·rw [if_pos c11] at H
          have c11b0 : ((bt a0 x3_1) == 45) = true := beq_iff_eq.mpr c11
          have c11b1 : ((bt a0 x3_1) != 45) = false := bne_eq_false_iff_eq.mpr c11
          clear c11
          have H' := am H
          clear H
          have p6 : 0 ≤ (x3_1 : Int) := oT
          have q6 : x3_1 < (a0.size : Int) := oT
          have hx6 := bt_at a0 x3_1
          replace p6 := eq_true p6
          replace q6 := eq_true q6
          go_wp2
          go_roundg k1
          case measure => have := HK1.out; omega
          case rel => exact ⟨(wrap64 (x3_1 + 1)), (pY136), H', ⟨by have := HK1.out; omega⟩, pY133⟩
         ·rw [if_neg c11] at H
          have c11b0 : ((bt a0 x3_1) == 45) = false := beq_eq_false_iff_ne.mpr c11
          have c11b1 : ((bt a0 x3_1) != 45) = true := bne_iff_ne.mpr c11
          obtain rfl := Option.some.inj H
          have p6 : 0 ≤ (x3_1 : Int) := oT
          have q6 : x3_1 < (a0.size : Int) := oT
          have hx6 := bt_at a0 x3_1
          replace p6 := eq_true p6
          replace q6 := eq_true q6
          go_wp2
          go_ret
          exact ⟨by first | rfl | (simp; done) | (simp [*]; done), pY133⟩
       ·rw [if_neg c9] at H
        have c9b0 : decide (48 ≤ (bt a0 x3_1)) = false := decide_eq_false c9
        clear c9
        by_cases c12 : ((bt a0 x3_1) = 45)
        ·rw [if_pos c12] at H
         have c12b0 : ((bt a0 x3_1) == 45) = true := beq_iff_eq.mpr c12
         have c12b1 : ((bt a0 x3_1) != 45) = false := bne_eq_false_iff_eq.mpr c12
         clear c12
         have H' := am H
         clear H
         have p6 : 0 ≤ (x3_1 : Int) := oT
         have q6 : x3_1 < (a0.size : Int) := oT
         have hx6 := bt_at a0 x3_1
         replace p6 := eq_true p6
         replace q6 := eq_true q6
         go_wp2
         go_roundg k1
         case measure => have := HK1.out; omega
         case rel => exact ⟨(wrap64 (x3_1 + 1)), (pY136), H', ⟨by have := HK1.out; omega⟩, pY133⟩
        ·rw [if_neg c12] at H
         have c12b0 : ((bt a0 x3_1) == 45) = false := beq_eq_false_iff_ne.mpr c12
         have c12b1 : ((bt a0 x3_1) != 45) = true := bne_iff_ne.mpr c12
         obtain rfl := Option.some.inj H
         have p6 : 0 ≤ (x3_1 : Int) := oT
         have q6 : x3_1 < (a0.size : Int) := oT
         have hx6 := bt_at a0 x3_1
         replace p6 := eq_true p6
         replace q6 := eq_true q6
         go_wp2
         go_ret
         exact ⟨by first | rfl | (simp; done) | (simp [*]; done), pY133⟩
     ·rw [if_neg c7] at H
      have c7b0 : decide (97 ≤ (bt a0 x3_1)) = false := decide_eq_false c7
      clear c7
      by_cases c13 : (bt a0 x3_1) ≥ 48
      ·rw [if_pos c13] at H
       have c13b0 : decide (48 ≤ (bt a0 x3_1)) = true := decide_eq_true c13
       clear c13
       refine ic H ?_ ?_ <;> clear H <;> intro c14b0 H
       ·have H' := am H
        clear H
        have p6 : 0 ≤ (x3_1 : Int) := oT
        have q6 : x3_1 < (a0.size : Int) := oT
        have hx6 := bt_at a0 x3_1
        replace p6 := eq_true p6
        replace q6 := eq_true q6
        go_wp2
        go_roundg k1
        case measure => have := HK1.out; omega
        case rel => exact ⟨(wrap64 (x3_1 + 1)), (pY136), H', ⟨by have := HK1.out; omega⟩, pY133⟩
       ·by_cases c15 : ((bt a0 x3_1) = 45)
        ·rw [if_pos c15] at H
         have c15b0 : ((bt a0 x3_1) == 45) = true := beq_iff_eq.mpr c15
         have c15b1 : ((bt a0 x3_1) != 45) = false := bne_eq_false_iff_eq.mpr c15
         clear c15
         have H' := am H
         clear H
         have p6 : 0 ≤ (x3_1 : Int) := oT
         have q6 : x3_1 < (a0.size : Int) := oT
         have hx6 := bt_at a0 x3_1
         replace p6 := eq_true p6
         replace q6 := eq_true q6
         go_wp2
         go_roundg k1
         case measure => have := HK1.out; omega
         case rel => exact ⟨(wrap64 (x3_1 + 1)), (pY136), H', ⟨by have := HK1.out; omega⟩, pY133⟩
        ·rw [if_neg c15] at H
         have c15b0 : ((bt a0 x3_1) == 45) = false := beq_eq_false_iff_ne.mpr c15
         have c15b1 : ((bt a0 x3_1) != 45) = true := bne_iff_ne.mpr c15
         obtain rfl := Option.some.inj H
         have p6 : 0 ≤ (x3_1 : Int) := oT
         have q6 : x3_1 < (a0.size : Int) := oT
         have hx6 := bt_at a0 x3_1
         replace p6 := eq_true p6
         replace q6 := eq_true q6
         go_wp2
         go_ret
         exact ⟨by first | rfl | (simp; done) | (simp [*]; done), pY133⟩
      ·rw [if_neg c13] at H
       have c13b0 : decide (48 ≤ (bt a0 x3_1)) = false := decide_eq_false c13
       clear c13
       by_cases c16 : ((bt a0 x3_1) = 45)
       ·rw [if_pos c16] at H
        have c16b0 : ((bt a0 x3_1) == 45) = true := beq_iff_eq.mpr c16
        have c16b1 : ((bt a0 x3_1) != 45) = false := bne_eq_false_iff_eq.mpr c16
        clear c16
        have H' := am H
        clear H
        have p6 : 0 ≤ (x3_1 : Int) := oT
        have q6 : x3_1 < (a0.size : Int) := oT
        have hx6 := bt_at a0 x3_1
        replace p6 := eq_true p6
        replace q6 := eq_true q6
        go_wp2
        go_roundg k1
        case measure => have := HK1.out; omega
        case rel => exact ⟨(wrap64 (x3_1 + 1)), (pY136), H', ⟨by have := HK1.out; omega⟩, pY133⟩
       ·rw [if_neg c16] at H
        have c16b0 : ((bt a0 x3_1) == 45) = false := beq_eq_false_iff_ne.mpr c16
        have c16b1 : ((bt a0 x3_1) != 45) = true := bne_iff_ne.mpr c16
        obtain rfl := Option.some.inj H
        have p6 : 0 ≤ (x3_1 : Int) := oT
        have q6 : x3_1 < (a0.size : Int) := oT
        have hx6 := bt_at a0 x3_1
        replace p6 := eq_true p6
        replace q6 := eq_true q6
        go_wp2
        go_ret
        exact ⟨by first | rfl | (simp; done) | (simp [*]; done), pY133⟩
    ·obtain rfl := Option.some.inj H
     go_wp2
     go_ret
     exact ⟨by first | rfl | (simp; done) | (simp [*]; done), pY133⟩
 ·obtain rfl := Option.some.inj H
  go_enter Try.func70, Try.ntmps70
  go_wp2_with (first | ((with_reducible refine gC 111 ?_); refine cQ (some 7) Try.func111 (spec_l1In.calls (a0.size : Int) 1 8 false _ A2.out) ?_; rintro w' ⟨nd, rfl⟩))
  go_ret
  exact ⟨by first | rfl | (simp; done) | (simp [*]; done), pY133⟩
def spec_l1ThingsOk.l0 : Nat → List ByteArray → Int → Option (Bool)
 | 0, _, _ => none
 | k + 1, x0, x3 => if x3 < (x0.length : Int) then (if 0 ≤ x3 then ((spec_l1NameOk.f k (rdOf ByteArray.empty x0 x3)).bind fun t102 => (if t102 = true then (if x3 > 0 then (if 0 ≤ (wrap64 (x3 - 1)) then (if (wrap64 (x3 - 1)) < (x0.length : Int) then (if ((Op.bytesLess ((rdOf ByteArray.empty x0 (wrap64 (x3 - 1))).toList) ((rdOf ByteArray.empty x0 x3).toList)) = true) then (spec_l1ThingsOk.l0 k x0 (wrap64 (x3 + 1))) else (some false)) else (none)) else (none)) else (spec_l1ThingsOk.l0 k x0 (wrap64 (x3 + 1)))) else (some false))) else (none)) else (some true)
def spec_l1ThingsOk.f (k : Nat) (l0 : List ByteArray) : Option (Bool) := if (l0.length : Int) > 8 then (some false) else (spec_l1ThingsOk.l0 k l0 0)
theorem spec_l1ThingsOk.calls (k : Nat) (A0 : Option Addr) (c0 : Nat) (l0 : List ByteArray) (r : Bool) (w : World) (hr0 : Kd.C Kd.string w A0 l0.length l0) (hc0 : l0.length ≤ c0) (h : spec_l1ThingsOk.f k l0 = some r) :
  Calls Try.prog 69 #[.slice A0 l0.length c0] w fun e w' => e = .returned (.bool r) ∧ Drawn0 w w' := by
 have HR0 := am hr0
 have HC0 := am hc0
 clear hr0 hc0
 unfold spec_l1ThingsOk.f at h
 have H := h
 clear h
 by_cases c2 : (l0.length : Int) > 8
 ·rw [if_pos c2] at H
  have c2b0 : decide (8 < (l0.length : Int)) = true := decide_eq_true c2
  have c2b1 : decide (8 < l0.length) = true := decide_eq_true (by omega)
  clear c2
  obtain rfl := Option.some.inj H
  go_enter Try.func69, Try.ntmps69
  go_wp2
  repeat (go_quiet (fail); try go_wp2)
  go_ret
  exact ⟨by first | rfl | (simp; done) | (simp [*]; done), pY133⟩
 ·rw [if_neg c2] at H
  have c2b0 : decide (8 < (l0.length : Int)) = false := decide_eq_false c2
  have c2b1 : decide (8 < l0.length) = false := decide_eq_false (by omega)
  clear c2
  have H' := am H
  clear H
  go_enter Try.func69, Try.ntmps69
  go_wp2
  repeat (go_quiet (fail); try go_wp2)
  go_loopg [3] k (fun kq v3 w' => ∃ (x3_1 : Int), v3 = .int .i64 x3_1 ∧ Aside0 (spec_l1ThingsOk.l0 kq l0 x3_1 = some r) ∧ Aside0 (kq ≤ k) ∧ Drawn0 w w')
  case atStart => exact ⟨(0), (pY136), H', ⟨Nat.le_refl _⟩, pY133⟩
  case round =>
   clear H'
   try clear c2
   try clear c2b0
   try clear c2b1
   obtain ⟨x3_1, rfl, HA, HK1, ⟨m1, rfl⟩⟩ := hrel
   cases gk with
   | zero => exact absurd HA.out (by simp [spec_l1ThingsOk.l0])
   | succ k1 =>
    have H := HA.out
    clear HA
    simp only [spec_l1ThingsOk.l0] at H
    refine ic H ?_ ?_ <;> clear H <;> intro c3b0 H
    obtain ⟨c4b0, H⟩ := cN H
    obtain ⟨t102, A5, H⟩ := bd H
    refine tC H ?_ ?_ <;> clear H <;> intro c6 H <;> subst c6
    by_cases c7 : x3_1 > 0
    rw [if_pos c7] at H
    have c7b0 : decide (0 < x3_1) = true := decide_eq_true c7
    clear c7
    obtain ⟨ji8, hji8⟩ : ∃ j_ : Int, (wrap64 (x3_1 - 1)) = j_ := ⟨_, rfl⟩
    replace H : (if 0 ≤ (ji8) then (if (ji8) < (l0.length : Int) then (if ((Op.bytesLess ((rdOf ByteArray.empty l0 (ji8)).toList) ((rdOf ByteArray.empty l0 x3_1).toList)) = true) then (spec_l1ThingsOk.l0 k1 l0 (wrap64 (x3_1 + 1))) else (some false)) else (none)) else (none)) = some r := by first | (rw [hji8] at H; exact H) | (simp only [hji8] at H ⊢; exact H)
    (try rw [hji8] at A5)
    have hji8w : (IntKind.i64.wrap (x3_1 - 1)) = ji8 := (i64_w _).trans hji8
    obtain ⟨c9b0, H⟩ := cN H
    obtain ⟨c10b0, H⟩ := cN H
    by_cases c11 : ((Op.bytesLess ((rdOf ByteArray.empty l0 (ji8)).toList) ((rdOf ByteArray.empty l0 x3_1).toList)) = true)
    rw [if_pos c11] at H
    have c11b0 : (Op.bytesLess ((rdOf ByteArray.empty l0 (ji8)).toList) ((rdOf ByteArray.empty l0 x3_1).toList)) = true := c11
    clear c11
    have H' := am H
    clear H
    obtain ⟨ad101, e101, hx101_0, p101, q101⟩ := aS HR0 b0 x3_1
    cases e101
    have M0_ := trivial
    rotate_left
    rw [if_neg c11] at H
    have c11b0 : (Op.bytesLess ((rdOf ByteArray.empty l0 (ji8)).toList) ((rdOf ByteArray.empty l0 x3_1).toList)) = false := by simpa using c11
    clear c11
    obtain rfl := Option.some.inj H
    obtain ⟨ad101, e101, hx101_0, p101, q101⟩ := aS HR0 b0 x3_1
    cases e101
    have M0_ := trivial
    rotate_left
    rw [if_neg c7] at H
    have c7b0 : decide (0 < x3_1) = false := decide_eq_false c7
    clear c7
    have H' := am H
    clear H
    obtain ⟨ad101, e101, hx101_0, p101, q101⟩ := aS HR0 b0 x3_1
    cases e101
    have M1_ := trivial
    rotate_left
    obtain rfl := Option.some.inj H
    obtain ⟨ad101, e101, hx101_0, p101, q101⟩ := aS HR0 b0 x3_1
    cases e101
    have M2_ := trivial
    rotate_left
    obtain rfl := Option.some.inj H
    rotate_left
    all_goals
     go_wp2_with (first | (go_at_call 70; clear M0_; refine cM (spec_l1NameOk.calls k1 (rdOf ByteArray.empty l0 x3_1) true _ A5.out) ?_; rintro w' ⟨nd, rfl⟩; (try first | exact ⟨rfl, _, World.drewN_drewN _ _ _⟩ | exact ⟨rfl, _, Eq.trans (World.drewN_drewN _ _ _) (congrArg (World.drewN _) (Nat.add_assoc _ _ _))⟩); obtain ⟨ad103, e103, hx103_0, p103, q103⟩ := aS HR0 b0 (ji8); obtain rfl : ad101 = ad103 := (by injection e103); obtain ⟨ad104, e104, hx104_0, p104, q104⟩ := aS HR0 b0 x3_1; obtain rfl : ad101 = ad104 := (by injection e104)) | (go_at_call 70; clear M1_; refine cM (spec_l1NameOk.calls k1 (rdOf ByteArray.empty l0 x3_1) true _ A5.out) ?_; rintro w' ⟨nd, rfl⟩; (try first | exact ⟨rfl, _, World.drewN_drewN _ _ _⟩ | exact ⟨rfl, _, Eq.trans (World.drewN_drewN _ _ _) (congrArg (World.drewN _) (Nat.add_assoc _ _ _))⟩)) | (go_at_call 70; clear M2_; refine cM (spec_l1NameOk.calls k1 (rdOf ByteArray.empty l0 x3_1) false _ A5.out) ?_; rintro w' ⟨nd, rfl⟩; (try first | exact ⟨rfl, _, World.drewN_drewN _ _ _⟩ | exact ⟨rfl, _, Eq.trans (World.drewN_drewN _ _ _) (congrArg (World.drewN _) (Nat.add_assoc _ _ _))⟩)))
    ·repeat (go_quiet (first | (go_at_call 70; refine cM (spec_l1NameOk.calls k1 (rdOf ByteArray.empty l0 x3_1) true _ A5.out) ?_; rintro w' ⟨nd, rfl⟩; (try first | exact ⟨rfl, _, World.drewN_drewN _ _ _⟩ | exact ⟨rfl, _, Eq.trans (World.drewN_drewN _ _ _) (congrArg (World.drewN _) (Nat.add_assoc _ _ _))⟩); obtain ⟨ad103, e103, hx103_0, p103, q103⟩ := aS HR0 b0 (ji8); obtain rfl : ad101 = ad103 := (by injection e103); obtain ⟨ad104, e104, hx104_0, p104, q104⟩ := aS HR0 b0 x3_1; obtain rfl : ad101 = ad104 := (by injection e104))); try go_wp2_with (first | (go_at_call 70; refine cM (spec_l1NameOk.calls k1 (rdOf ByteArray.empty l0 x3_1) true _ A5.out) ?_; rintro w' ⟨nd, rfl⟩; (try first | exact ⟨rfl, _, World.drewN_drewN _ _ _⟩ | exact ⟨rfl, _, Eq.trans (World.drewN_drewN _ _ _) (congrArg (World.drewN _) (Nat.add_assoc _ _ _))⟩); obtain ⟨ad103, e103, hx103_0, p103, q103⟩ := aS HR0 b0 (ji8); obtain rfl : ad101 = ad103 := (by injection e103); obtain ⟨ad104, e104, hx104_0, p104, q104⟩ := aS HR0 b0 x3_1; obtain rfl : ad101 = ad104 := (by injection e104))))
     go_roundg k1
     case measure => have := HK1.out; omega
     case rel => exact ⟨(wrap64 (x3_1 + 1)), (pY136), H', ⟨by have := HK1.out; omega⟩, pY133⟩
    ·repeat (go_quiet (first | (go_at_call 70; refine cM (spec_l1NameOk.calls k1 (rdOf ByteArray.empty l0 x3_1) true _ A5.out) ?_; rintro w' ⟨nd, rfl⟩; (try first | exact ⟨rfl, _, World.drewN_drewN _ _ _⟩ | exact ⟨rfl, _, Eq.trans (World.drewN_drewN _ _ _) (congrArg (World.drewN _) (Nat.add_assoc _ _ _))⟩); obtain ⟨ad103, e103, hx103_0, p103, q103⟩ := aS HR0 b0 (ji8); obtain rfl : ad101 = ad103 := (by injection e103); obtain ⟨ad104, e104, hx104_0, p104, q104⟩ := aS HR0 b0 x3_1; obtain rfl : ad101 = ad104 := (by injection e104))); try go_wp2_with (first | (go_at_call 70; refine cM (spec_l1NameOk.calls k1 (rdOf ByteArray.empty l0 x3_1) true _ A5.out) ?_; rintro w' ⟨nd, rfl⟩; (try first | exact ⟨rfl, _, World.drewN_drewN _ _ _⟩ | exact ⟨rfl, _, Eq.trans (World.drewN_drewN _ _ _) (congrArg (World.drewN _) (Nat.add_assoc _ _ _))⟩); obtain ⟨ad103, e103, hx103_0, p103, q103⟩ := aS HR0 b0 (ji8); obtain rfl : ad101 = ad103 := (by injection e103); obtain ⟨ad104, e104, hx104_0, p104, q104⟩ := aS HR0 b0 x3_1; obtain rfl : ad101 = ad104 := (by injection e104))))
     go_ret
     exact ⟨by first | rfl | (simp; done) | (simp only [← hji8] <;> (first | rfl | simp)) | (simp [*]; done), pY133⟩
    ·repeat (go_quiet (first | (go_at_call 70; refine cM (spec_l1NameOk.calls k1 (rdOf ByteArray.empty l0 x3_1) true _ A5.out) ?_; rintro w' ⟨nd, rfl⟩; (try first | exact ⟨rfl, _, World.drewN_drewN _ _ _⟩ | exact ⟨rfl, _, Eq.trans (World.drewN_drewN _ _ _) (congrArg (World.drewN _) (Nat.add_assoc _ _ _))⟩))); try go_wp2_with (first | (go_at_call 70; refine cM (spec_l1NameOk.calls k1 (rdOf ByteArray.empty l0 x3_1) true _ A5.out) ?_; rintro w' ⟨nd, rfl⟩; (try first | exact ⟨rfl, _, World.drewN_drewN _ _ _⟩ | exact ⟨rfl, _, Eq.trans (World.drewN_drewN _ _ _) (congrArg (World.drewN _) (Nat.add_assoc _ _ _))⟩))))
     go_roundg k1
     case measure => have := HK1.out; omega
     case rel => exact ⟨(wrap64 (x3_1 + 1)), (pY136), H', ⟨by have := HK1.out; omega⟩, pY133⟩
    ·repeat (go_quiet (first | (go_at_call 70; refine cM (spec_l1NameOk.calls k1 (rdOf ByteArray.empty l0 x3_1) false _ A5.out) ?_; rintro w' ⟨nd, rfl⟩; (try first | exact ⟨rfl, _, World.drewN_drewN _ _ _⟩ | exact ⟨rfl, _, Eq.trans (World.drewN_drewN _ _ _) (congrArg (World.drewN _) (Nat.add_assoc _ _ _))⟩))); try go_wp2_with (first | (go_at_call 70; refine cM (spec_l1NameOk.calls k1 (rdOf ByteArray.empty l0 x3_1) false _ A5.out) ?_; rintro w' ⟨nd, rfl⟩; (try first | exact ⟨rfl, _, World.drewN_drewN _ _ _⟩ | exact ⟨rfl, _, Eq.trans (World.drewN_drewN _ _ _) (congrArg (World.drewN _) (Nat.add_assoc _ _ _))⟩))))
     go_ret
     exact ⟨by first | rfl | (simp; done) | (simp [*]; done), pY133⟩
    ·repeat (go_quiet (fail); try go_wp2)
     go_ret
     exact ⟨by first | rfl | (simp; done) | (simp [*]; done), pY133⟩
def spec_l1Has.l0 : Nat → List ByteArray → ByteArray → Int → Option (Bool)
 | 0, _, _, _ => none
 | k + 1, x0, x1, x5 => if x5 < (x0.length : Int) then (if 0 ≤ x5 then (if (rdOf ByteArray.empty x0 x5).toList = x1.toList then (some true) else (spec_l1Has.l0 k x0 x1 (wrap64 (x5 + 1)))) else (none)) else (some false)
def spec_l1Has.f (k : Nat) (l0 : List ByteArray) (a1 : ByteArray) : Option (Bool) := spec_l1Has.l0 k l0 a1 0
theorem spec_l1Has.calls (k : Nat) (A0 : Option Addr) (c0 : Nat) (l0 : List ByteArray) (a1 : ByteArray) (r : Bool) (w : World) (hr0 : Kd.C Kd.string w A0 l0.length l0) (hc0 : l0.length ≤ c0) (h : spec_l1Has.f k l0 a1 = some r) :
  Calls Try.prog 80 #[.slice A0 l0.length c0, .string a1] w fun e w' => e = .returned (.bool r) ∧ Drawn0 w w' := by
 have HR0 := am hr0
 have HC0 := am hc0
 clear hr0 hc0
 unfold spec_l1Has.f at h
 have H := h
 clear h
 have H' := am H
 clear H
 go_enter Try.func80, Try.ntmps80
 go_wp2
 go_loopg [5] k (fun kq v5 w' => ∃ (x5_1 : Int), v5 = .int .i64 x5_1 ∧ Aside0 (spec_l1Has.l0 kq l0 a1 x5_1 = some r) ∧ Aside0 (kq ≤ k) ∧ Drawn0 w w')
 case atStart => exact ⟨(0), (pY136), H', ⟨Nat.le_refl _⟩, pY133⟩
 case round =>
  clear H'
  obtain ⟨x5_1, rfl, HA, HK1, ⟨m1, rfl⟩⟩ := hrel
  cases gk with
  | zero => exact absurd HA.out (by simp [spec_l1Has.l0])
  | succ k1 =>
   have H := HA.out
   clear HA
   simp only [spec_l1Has.l0] at H
   refine ic H ?_ ?_ <;> clear H <;> intro c3b0 H
   ·obtain ⟨c4b0, H⟩ := cN H
    by_cases c5 : (rdOf ByteArray.empty l0 x5_1).toList = a1.toList
    ·rw [if_pos c5] at H
     have c5b0 : ((rdOf ByteArray.empty l0 x5_1).toList == a1.toList) = true := beq_iff_eq.mpr c5
     have c5b1 : ((rdOf ByteArray.empty l0 x5_1).toList != a1.toList) = false := bne_eq_false_iff_eq.mpr c5
     clear c5
     obtain rfl := Option.some.inj H
     obtain ⟨ad101, e101, hx101_0, p101, q101⟩ := aS HR0 b0 x5_1
     cases e101
     go_wp2
     go_ret
     exact ⟨by first | rfl | (simp; done) | (simp [*]; done), pY133⟩
    ·rw [if_neg c5] at H
     have c5b0 : ((rdOf ByteArray.empty l0 x5_1).toList == a1.toList) = false := beq_eq_false_iff_ne.mpr c5
     have c5b1 : ((rdOf ByteArray.empty l0 x5_1).toList != a1.toList) = true := bne_iff_ne.mpr c5
     have H' := am H
     clear H
     obtain ⟨ad101, e101, hx101_0, p101, q101⟩ := aS HR0 b0 x5_1
     cases e101
     go_wp2
     go_roundg k1
     case measure => have := HK1.out; omega
     case rel => exact ⟨(wrap64 (x5_1 + 1)), (pY136), H', ⟨by have := HK1.out; omega⟩, pY133⟩
   ·obtain rfl := Option.some.inj H
    go_wp2
    go_ret
    exact ⟨by first | rfl | (simp; done) | (simp [*]; done), pY133⟩
def spec_l1NamesOk.l0 : Nat → List ByteArray → List ByteArray → Int → Option (Bool)
 | 0, _, _, _ => none
 | k + 1, x0, x1, x5 => if x5 < (x0.length : Int) then (if 0 ≤ x5 then ((spec_l1Has.f k x1 (rdOf ByteArray.empty x0 x5)).bind fun t102 => (if t102 = true then (if x5 > 0 then (if 0 ≤ (wrap64 (x5 - 1)) then (if (wrap64 (x5 - 1)) < (x0.length : Int) then (if ((Op.bytesLess ((rdOf ByteArray.empty x0 (wrap64 (x5 - 1))).toList) ((rdOf ByteArray.empty x0 x5).toList)) = true) then (spec_l1NamesOk.l0 k x0 x1 (wrap64 (x5 + 1))) else (some false)) else (none)) else (none)) else (spec_l1NamesOk.l0 k x0 x1 (wrap64 (x5 + 1)))) else (some false))) else (none)) else (some true)
def spec_l1NamesOk.f (k : Nat) (l0 : List ByteArray) (l1 : List ByteArray) : Option (Bool) := spec_l1NamesOk.l0 k l0 l1 0
theorem spec_l1NamesOk.calls (k : Nat) (A0 : Option Addr) (c0 : Nat) (l0 : List ByteArray) (A1 : Option Addr) (c1 : Nat) (l1 : List ByteArray) (r : Bool) (w : World) (hr0 : Kd.C Kd.string w A0 l0.length l0) (hc0 : l0.length ≤ c0) (hr1 : Kd.C Kd.string w A1 l1.length l1) (hc1 : l1.length ≤ c1) (h : spec_l1NamesOk.f k l0 l1 = some r) :
  Calls Try.prog 71 #[.slice A0 l0.length c0, .slice A1 l1.length c1] w fun e w' => e = .returned (.bool r) ∧ Drawn0 w w' := by
 have HR0 := am hr0
 have HC0 := am hc0
 clear hr0 hc0
 have HR1 := am hr1
 have HC1 := am hc1
 clear hr1 hc1
 unfold spec_l1NamesOk.f at h
 have H := h
 clear h
 have H' := am H
 clear H
 go_enter Try.func71, Try.ntmps71
 go_wp2
 repeat (go_quiet (fail); try go_wp2)
 go_loopg [5] k (fun kq v5 w' => ∃ (x5_1 : Int), v5 = .int .i64 x5_1 ∧ Aside0 (spec_l1NamesOk.l0 kq l0 l1 x5_1 = some r) ∧ Aside0 (kq ≤ k) ∧ Drawn0 w w')
 case atStart => exact ⟨(0), (pY136), H', ⟨Nat.le_refl _⟩, pY133⟩
 case round =>
  clear H'
  try clear c1
  obtain ⟨x5_1, rfl, HA, HK1, ⟨m1, rfl⟩⟩ := hrel
  cases gk with
  | zero => exact absurd HA.out (by simp [spec_l1NamesOk.l0])
  | succ k1 =>
   have H := HA.out
   clear HA
   simp only [spec_l1NamesOk.l0] at H
   refine ic H ?_ ?_ <;> clear H <;> intro c3b0 H
   obtain ⟨c4b0, H⟩ := cN H
   obtain ⟨t102, A5, H⟩ := bd H
   refine tC H ?_ ?_ <;> clear H <;> intro c6 H <;> subst c6
   by_cases c7 : x5_1 > 0
   rw [if_pos c7] at H
   have c7b0 : decide (0 < x5_1) = true := decide_eq_true c7
   clear c7
   obtain ⟨ji8, hji8⟩ : ∃ j_ : Int, (wrap64 (x5_1 - 1)) = j_ := ⟨_, rfl⟩
   replace H : (if 0 ≤ (ji8) then (if (ji8) < (l0.length : Int) then (if ((Op.bytesLess ((rdOf ByteArray.empty l0 (ji8)).toList) ((rdOf ByteArray.empty l0 x5_1).toList)) = true) then (spec_l1NamesOk.l0 k1 l0 l1 (wrap64 (x5_1 + 1))) else (some false)) else (none)) else (none)) = some r := by first | (rw [hji8] at H; exact H) | (simp only [hji8] at H ⊢; exact H)
   (try rw [hji8] at A5)
   have hji8w : (IntKind.i64.wrap (x5_1 - 1)) = ji8 := (i64_w _).trans hji8
   obtain ⟨c9b0, H⟩ := cN H
   obtain ⟨c10b0, H⟩ := cN H
   by_cases c11 : ((Op.bytesLess ((rdOf ByteArray.empty l0 (ji8)).toList) ((rdOf ByteArray.empty l0 x5_1).toList)) = true)
   rw [if_pos c11] at H
   have c11b0 : (Op.bytesLess ((rdOf ByteArray.empty l0 (ji8)).toList) ((rdOf ByteArray.empty l0 x5_1).toList)) = true := c11
   clear c11
   have H' := am H
   clear H
   obtain ⟨ad101, e101, hx101_0, p101, q101⟩ := aS HR0 b0 x5_1
   cases e101
   have M3_ := trivial
   rotate_left
   rw [if_neg c11] at H
   have c11b0 : (Op.bytesLess ((rdOf ByteArray.empty l0 (ji8)).toList) ((rdOf ByteArray.empty l0 x5_1).toList)) = false := by simpa using c11
   clear c11
   obtain rfl := Option.some.inj H
   obtain ⟨ad101, e101, hx101_0, p101, q101⟩ := aS HR0 b0 x5_1
   cases e101
   have M3_ := trivial
   rotate_left
   rw [if_neg c7] at H
   have c7b0 : decide (0 < x5_1) = false := decide_eq_false c7
   clear c7
   have H' := am H
   clear H
   obtain ⟨ad101, e101, hx101_0, p101, q101⟩ := aS HR0 b0 x5_1
   cases e101
   have M4_ := trivial
   rotate_left
   obtain rfl := Option.some.inj H
   obtain ⟨ad101, e101, hx101_0, p101, q101⟩ := aS HR0 b0 x5_1
   cases e101
   have M5_ := trivial
   rotate_left
   obtain rfl := Option.some.inj H
   rotate_left
   all_goals
    go_wp2_with (first | (go_at_call 80; clear M3_; refine cM (spec_l1Has.calls k1 _ _ l1 (rdOf ByteArray.empty l0 x5_1) true _ (pC HR1.1) HC1.1 A5.out) ?_; rintro w' ⟨nd, rfl⟩; (try first | exact ⟨rfl, _, World.drewN_drewN _ _ _⟩ | exact ⟨rfl, _, Eq.trans (World.drewN_drewN _ _ _) (congrArg (World.drewN _) (Nat.add_assoc _ _ _))⟩); obtain ⟨ad103, e103, hx103_0, p103, q103⟩ := aS HR0 b0 (ji8); obtain rfl : ad101 = ad103 := (by injection e103); obtain ⟨ad104, e104, hx104_0, p104, q104⟩ := aS HR0 b0 x5_1; obtain rfl : ad101 = ad104 := (by injection e104)) | (go_at_call 80; clear M4_; refine cM (spec_l1Has.calls k1 _ _ l1 (rdOf ByteArray.empty l0 x5_1) true _ (pC HR1.1) HC1.1 A5.out) ?_; rintro w' ⟨nd, rfl⟩; (try first | exact ⟨rfl, _, World.drewN_drewN _ _ _⟩ | exact ⟨rfl, _, Eq.trans (World.drewN_drewN _ _ _) (congrArg (World.drewN _) (Nat.add_assoc _ _ _))⟩)) | (go_at_call 80; clear M5_; refine cM (spec_l1Has.calls k1 _ _ l1 (rdOf ByteArray.empty l0 x5_1) false _ (pC HR1.1) HC1.1 A5.out) ?_; rintro w' ⟨nd, rfl⟩; (try first | exact ⟨rfl, _, World.drewN_drewN _ _ _⟩ | exact ⟨rfl, _, Eq.trans (World.drewN_drewN _ _ _) (congrArg (World.drewN _) (Nat.add_assoc _ _ _))⟩)))
   ·repeat (go_quiet (first | (go_at_call 80; refine cM (spec_l1Has.calls k1 _ _ l1 (rdOf ByteArray.empty l0 x5_1) true _ (pC HR1.1) HC1.1 A5.out) ?_; rintro w' ⟨nd, rfl⟩; (try first | exact ⟨rfl, _, World.drewN_drewN _ _ _⟩ | exact ⟨rfl, _, Eq.trans (World.drewN_drewN _ _ _) (congrArg (World.drewN _) (Nat.add_assoc _ _ _))⟩); obtain ⟨ad103, e103, hx103_0, p103, q103⟩ := aS HR0 b0 (ji8); obtain rfl : ad101 = ad103 := (by injection e103); obtain ⟨ad104, e104, hx104_0, p104, q104⟩ := aS HR0 b0 x5_1; obtain rfl : ad101 = ad104 := (by injection e104))); try go_wp2_with (first | (go_at_call 80; refine cM (spec_l1Has.calls k1 _ _ l1 (rdOf ByteArray.empty l0 x5_1) true _ (pC HR1.1) HC1.1 A5.out) ?_; rintro w' ⟨nd, rfl⟩; (try first | exact ⟨rfl, _, World.drewN_drewN _ _ _⟩ | exact ⟨rfl, _, Eq.trans (World.drewN_drewN _ _ _) (congrArg (World.drewN _) (Nat.add_assoc _ _ _))⟩); obtain ⟨ad103, e103, hx103_0, p103, q103⟩ := aS HR0 b0 (ji8); obtain rfl : ad101 = ad103 := (by injection e103); obtain ⟨ad104, e104, hx104_0, p104, q104⟩ := aS HR0 b0 x5_1; obtain rfl : ad101 = ad104 := (by injection e104))))
    go_roundg k1
    case measure => have := HK1.out; omega
    case rel => exact ⟨(wrap64 (x5_1 + 1)), (pY136), H', ⟨by have := HK1.out; omega⟩, pY133⟩
   ·repeat (go_quiet (first | (go_at_call 80; refine cM (spec_l1Has.calls k1 _ _ l1 (rdOf ByteArray.empty l0 x5_1) true _ (pC HR1.1) HC1.1 A5.out) ?_; rintro w' ⟨nd, rfl⟩; (try first | exact ⟨rfl, _, World.drewN_drewN _ _ _⟩ | exact ⟨rfl, _, Eq.trans (World.drewN_drewN _ _ _) (congrArg (World.drewN _) (Nat.add_assoc _ _ _))⟩); obtain ⟨ad103, e103, hx103_0, p103, q103⟩ := aS HR0 b0 (ji8); obtain rfl : ad101 = ad103 := (by injection e103); obtain ⟨ad104, e104, hx104_0, p104, q104⟩ := aS HR0 b0 x5_1; obtain rfl : ad101 = ad104 := (by injection e104))); try go_wp2_with (first | (go_at_call 80; refine cM (spec_l1Has.calls k1 _ _ l1 (rdOf ByteArray.empty l0 x5_1) true _ (pC HR1.1) HC1.1 A5.out) ?_; rintro w' ⟨nd, rfl⟩; (try first | exact ⟨rfl, _, World.drewN_drewN _ _ _⟩ | exact ⟨rfl, _, Eq.trans (World.drewN_drewN _ _ _) (congrArg (World.drewN _) (Nat.add_assoc _ _ _))⟩); obtain ⟨ad103, e103, hx103_0, p103, q103⟩ := aS HR0 b0 (ji8); obtain rfl : ad101 = ad103 := (by injection e103); obtain ⟨ad104, e104, hx104_0, p104, q104⟩ := aS HR0 b0 x5_1; obtain rfl : ad101 = ad104 := (by injection e104))))
    go_ret
    exact ⟨by first | rfl | (simp; done) | (simp only [← hji8] <;> (first | rfl | simp)) | (simp [*]; done), pY133⟩
   ·repeat (go_quiet (first | (go_at_call 80; refine cM (spec_l1Has.calls k1 _ _ l1 (rdOf ByteArray.empty l0 x5_1) true _ (pC HR1.1) HC1.1 A5.out) ?_; rintro w' ⟨nd, rfl⟩; (try first | exact ⟨rfl, _, World.drewN_drewN _ _ _⟩ | exact ⟨rfl, _, Eq.trans (World.drewN_drewN _ _ _) (congrArg (World.drewN _) (Nat.add_assoc _ _ _))⟩))); try go_wp2_with (first | (go_at_call 80; refine cM (spec_l1Has.calls k1 _ _ l1 (rdOf ByteArray.empty l0 x5_1) true _ (pC HR1.1) HC1.1 A5.out) ?_; rintro w' ⟨nd, rfl⟩; (try first | exact ⟨rfl, _, World.drewN_drewN _ _ _⟩ | exact ⟨rfl, _, Eq.trans (World.drewN_drewN _ _ _) (congrArg (World.drewN _) (Nat.add_assoc _ _ _))⟩))))
    go_roundg k1
    case measure => have := HK1.out; omega
    case rel => exact ⟨(wrap64 (x5_1 + 1)), (pY136), H', ⟨by have := HK1.out; omega⟩, pY133⟩
   ·repeat (go_quiet (first | (go_at_call 80; refine cM (spec_l1Has.calls k1 _ _ l1 (rdOf ByteArray.empty l0 x5_1) false _ (pC HR1.1) HC1.1 A5.out) ?_; rintro w' ⟨nd, rfl⟩; (try first | exact ⟨rfl, _, World.drewN_drewN _ _ _⟩ | exact ⟨rfl, _, Eq.trans (World.drewN_drewN _ _ _) (congrArg (World.drewN _) (Nat.add_assoc _ _ _))⟩))); try go_wp2_with (first | (go_at_call 80; refine cM (spec_l1Has.calls k1 _ _ l1 (rdOf ByteArray.empty l0 x5_1) false _ (pC HR1.1) HC1.1 A5.out) ?_; rintro w' ⟨nd, rfl⟩; (try first | exact ⟨rfl, _, World.drewN_drewN _ _ _⟩ | exact ⟨rfl, _, Eq.trans (World.drewN_drewN _ _ _) (congrArg (World.drewN _) (Nat.add_assoc _ _ _))⟩))))
    go_ret
    exact ⟨by first | rfl | (simp; done) | (simp [*]; done), pY133⟩
   ·repeat (go_quiet (fail); try go_wp2)
    go_ret
    exact ⟨by first | rfl | (simp; done) | (simp [*]; done), pY133⟩
def spec_l1Share.l0 : Nat → List ByteArray → List ByteArray → Int → Option (Bool)
 | 0, _, _, _ => none
 | k + 1, x0, x1, x5 => if x5 < (x0.length : Int) then (if 0 ≤ x5 then ((spec_l1Has.f k x1 (rdOf ByteArray.empty x0 x5)).bind fun t102 => (if t102 = true then (some true) else (spec_l1Share.l0 k x0 x1 (wrap64 (x5 + 1))))) else (none)) else (some false)
def spec_l1Share.f (k : Nat) (l0 : List ByteArray) (l1 : List ByteArray) : Option (Bool) := spec_l1Share.l0 k l0 l1 0
theorem spec_l1Share.calls (k : Nat) (A0 : Option Addr) (c0 : Nat) (l0 : List ByteArray) (A1 : Option Addr) (c1 : Nat) (l1 : List ByteArray) (r : Bool) (w : World) (hr0 : Kd.C Kd.string w A0 l0.length l0) (hc0 : l0.length ≤ c0) (hr1 : Kd.C Kd.string w A1 l1.length l1) (hc1 : l1.length ≤ c1) (h : spec_l1Share.f k l0 l1 = some r) :
  Calls Try.prog 72 #[.slice A0 l0.length c0, .slice A1 l1.length c1] w fun e w' => e = .returned (.bool r) ∧ Drawn0 w w' := by
 have HR0 := am hr0
 have HC0 := am hc0
 clear hr0 hc0
 have HR1 := am hr1
 have HC1 := am hc1
 clear hr1 hc1
 unfold spec_l1Share.f at h
 have H := h
 clear h
 have H' := am H
 clear H
 go_enter Try.func72, Try.ntmps72
 go_wp2
 go_loopg [5] k (fun kq v5 w' => ∃ (x5_1 : Int), v5 = .int .i64 x5_1 ∧ Aside0 (spec_l1Share.l0 kq l0 l1 x5_1 = some r) ∧ Aside0 (kq ≤ k) ∧ Drawn0 w w')
 case atStart => exact ⟨(0), (pY136), H', ⟨Nat.le_refl _⟩, pY133⟩
 case round =>
  clear H'
  try clear c1
  obtain ⟨x5_1, rfl, HA, HK1, ⟨m1, rfl⟩⟩ := hrel
  cases gk with
  | zero => exact absurd HA.out (by simp [spec_l1Share.l0])
  | succ k1 =>
   have H := HA.out
   clear HA
   simp only [spec_l1Share.l0] at H
   refine ic H ?_ ?_ <;> clear H <;> intro c3b0 H
   ·obtain ⟨c4b0, H⟩ := cN H
    obtain ⟨t102, A5, H⟩ := bd H
    refine tC H ?_ ?_ <;> clear H <;> intro c6 H <;> subst c6
    ·obtain rfl := Option.some.inj H
     obtain ⟨ad101, e101, hx101_0, p101, q101⟩ := aS HR0 b0 x5_1
     cases e101
     go_wp2_with (first | ((with_reducible refine gC 80 ?_); refine cQ (some 17) Try.func80 (spec_l1Has.calls k1 _ _ l1 (rdOf ByteArray.empty l0 x5_1) true _ (pC HR1.1) HC1.1 A5.out) ?_; rintro w' ⟨nd, rfl⟩))
     go_ret
     exact ⟨by first | rfl | (simp; done) | (simp [*]; done), pY133⟩
    ·have H' := am H
     clear H
     obtain ⟨ad101, e101, hx101_0, p101, q101⟩ := aS HR0 b0 x5_1
     cases e101
     go_wp2_with (first | ((with_reducible refine gC 80 ?_); refine cQ (some 17) Try.func80 (spec_l1Has.calls k1 _ _ l1 (rdOf ByteArray.empty l0 x5_1) false _ (pC HR1.1) HC1.1 A5.out) ?_; rintro w' ⟨nd, rfl⟩))
     go_roundg k1
     case measure => have := HK1.out; omega
     case rel => exact ⟨(wrap64 (x5_1 + 1)), (pY136), H', ⟨by have := HK1.out; omega⟩, pY133⟩
   ·obtain rfl := Option.some.inj H
    go_wp2
    go_ret
    exact ⟨by first | rfl | (simp; done) | (simp [*]; done), pY133⟩
mutual
def spec_ShareBookOk.j0 : Nat → Bool → List ByteArray → List (S56) → Option (Bool)
 | 0, _, _, _ => none
 | k + 1, x15, x102000, x102001 => if x15 = true then (some false) else (spec_ShareBookOk.l0 k 0 x102000 x102001)
def spec_ShareBookOk.l0 : Nat → Int → List ByteArray → List (S56) → Option (Bool)
 | 0, _, _, _ => none
 | k + 1, x3, x102000, x102001 => if x3 < (x102001.length : Int) then (if 0 ≤ x3 then ((spec_l1NameOk.f k ((rd_T56 x102001 x3).f0)).bind fun t105 => (if t105 = true then (if x3 > 0 then (if 0 ≤ (wrap64 (x3 - 1)) then (if (wrap64 (x3 - 1)) < (x102001.length : Int) then (if ((Op.bytesLess (((rd_T56 x102001 (wrap64 (x3 - 1))).f0).toList) (((rd_T56 x102001 x3).f0).toList)) = true) then ((spec_l1NamesOk.f k ((rd_T56 x102001 x3).f2) x102000).bind fun t107 => (if t107 = true then ((spec_l1NamesOk.f k ((rd_T56 x102001 x3).f1) ((rd_T56 x102001 x3).f2)).bind fun t108 => (spec_ShareBookOk.j2 k x3 (!t108) x102000 x102001 ((rd_T56 x102001 x3).f0) ((rd_T56 x102001 x3).f1) ((rd_T56 x102001 x3).f2))) else (spec_ShareBookOk.j2 k x3 true x102000 x102001 ((rd_T56 x102001 x3).f0) ((rd_T56 x102001 x3).f1) ((rd_T56 x102001 x3).f2)))) else (spec_ShareBookOk.j2 k x3 true x102000 x102001 ((rd_T56 x102001 x3).f0) ((rd_T56 x102001 x3).f1) ((rd_T56 x102001 x3).f2))) else (none)) else (none)) else ((spec_l1NamesOk.f k ((rd_T56 x102001 x3).f2) x102000).bind fun t109 => (if t109 = true then ((spec_l1NamesOk.f k ((rd_T56 x102001 x3).f1) ((rd_T56 x102001 x3).f2)).bind fun t110 => (spec_ShareBookOk.j2 k x3 (!t110) x102000 x102001 ((rd_T56 x102001 x3).f0) ((rd_T56 x102001 x3).f1) ((rd_T56 x102001 x3).f2))) else (spec_ShareBookOk.j2 k x3 true x102000 x102001 ((rd_T56 x102001 x3).f0) ((rd_T56 x102001 x3).f1) ((rd_T56 x102001 x3).f2))))) else (spec_ShareBookOk.j2 k x3 true x102000 x102001 ((rd_T56 x102001 x3).f0) ((rd_T56 x102001 x3).f1) ((rd_T56 x102001 x3).f2)))) else (none)) else (some true)
def spec_ShareBookOk.j2 : Nat → Int → Bool → List ByteArray → List (S56) → ByteArray → List ByteArray → List ByteArray → Option (Bool)
 | 0, _, _, _, _, _, _, _ => none
 | k + 1, x3, x63, x102000, x102001, x105000, x105001, x105002 => if x63 = true then (some false) else (spec_ShareBookOk.l1 k x3 0 x102000 x102001 x105000 x105001 x105002)
def spec_ShareBookOk.l1 : Nat → Int → Int → List ByteArray → List (S56) → ByteArray → List ByteArray → List ByteArray → Option (Bool)
 | 0, _, _, _, _, _, _, _ => none
 | k + 1, x3, x5, x102000, x102001, x105000, x105001, x105002 => if x5 < x3 then (if 0 ≤ x5 then (if x5 < (x102001.length : Int) then ((spec_l1Share.f k x105001 ((rd_T56 x102001 x5).f1)).bind fun t112 => (if t112 = true then (some false) else (spec_ShareBookOk.l1 k x3 (wrap64 (x5 + 1)) x102000 x102001 x105000 x105001 x105002))) else (none)) else (none)) else (spec_ShareBookOk.l0 k (wrap64 (x3 + 1)) x102000 x102001)
end
def spec_ShareBookOk.f (k : Nat) (l0_0 : List ByteArray) (l0_1 : List (S56)) : Option (Bool) := (spec_l1ThingsOk.f k l0_0).bind fun t102 => (if t102 = true then (spec_ShareBookOk.j0 k (decide ((l0_1.length : Int) > 5)) l0_0 l0_1) else (spec_ShareBookOk.j0 k true l0_0 l0_1))
def spec_ShareBookOk.T7 : Bool × List (List Nat × List Nat) := (true, [([], []), ([0], [0]), ([1], [1]), ([2], [2]), ([3, 2], [3]), ([4], [4]), ([5, 4], [4, 5]), ([6, 4, 4], [4, 6]), ([7], [7]), ([8, 7], [7, 8]), ([7], [7]), ([10, 7], [7, 10]), ([9, 11, 7], [7, 9, 11]), ([12, 7], [7, 12]), ([13, 7], [7, 13]), ([7], [7]), ([15, 7], [7, 15]), ([14, 16, 7], [7, 14, 16]), ([7, 17, 4], [4, 7, 17]), ([4, 18], [4, 18]), ([19, 7], [19]), ([20], [20]), ([21, 20], [20, 21]), ([20], [20]), ([23, 20], [20, 23]), ([22, 24, 20, 20], [20, 22, 24]), ([25, 20], [20, 25]), ([20, 26], [20, 26]), ([27, 25], [27]), ([28], [28]), ([29, 28], [28, 29]), ([28], [28]), ([31, 28], [28, 31]), ([30, 32, 28, 28], [28, 30, 32]), ([33, 28], [28, 33]), ([28, 34], [28, 34])])
def spec_ShareBookOk.B7 : List Nat := [0, 1, 3, 7, 15, 31, 63, 127, 255, 511, 255, 1279, 4095, 8191, 16383, 255, 33023, 131071, 262143, 524287, 1048575, 2097151, 4194303, 2097151, 10485759, 33554431, 67108863, 134217727, 268435455, 536870911, 1073741823, 536870911, 2684354559, 8589934591, 17179869183, 34359738367]
theorem spec_ShareBookOk.tab7 : rtab .any (opsOf Try.f22 7) = spec_ShareBookOk.T7 := by kernel_rfl
theorem spec_ShareBookOk.bits7 : waitsOk spec_ShareBookOk.T7.2 spec_ShareBookOk.B7 = true := by kernel_rfl
def spec_ShareBookOk.T12 : Bool × List (List Nat × List Nat) := (true, [([], []), ([0], [0]), ([], []), ([2], [2]), ([], []), ([3, 4], [3, 4]), ([5], [5]), ([6], [6]), ([1, 7], [1, 7])])
def spec_ShareBookOk.B12 : List Nat := [0, 1, 0, 4, 0, 28, 60, 124, 255]
theorem spec_ShareBookOk.tab12 : rtab .any (opsOf Try.f22 12) = spec_ShareBookOk.T12 := by kernel_rfl
theorem spec_ShareBookOk.bits12 : waitsOk spec_ShareBookOk.T12.2 spec_ShareBookOk.B12 = true := by kernel_rfl
theorem spec_ShareBookOk.calls (k : Nat) (A0_0 : Option Addr) (c0_0 : Nat) (l0_0 : List ByteArray) (A0_1 : Option Addr) (c0_1 : Nat) (l0_1 : List (S56)) (r : Bool) (w : World) (hr0_0 : Kd.C Kd.string w A0_0 l0_0.length l0_0) (hc0_0 : l0_0.length ≤ c0_0) (hr0_1 : Kd.C k56 w A0_1 l0_1.length l0_1) (hc0_1 : l0_1.length ≤ c0_1) (h : spec_ShareBookOk.f k l0_0 l0_1 = some r) :
  Calls Try.prog 22 #[.agg #[.slice A0_0 l0_0.length c0_0, .slice A0_1 l0_1.length c0_1]] w fun e w' => e = .returned (.bool r) ∧ Below w.heap.size w w' := by
 have hu31 := Try.underlying31
 have hu56 := Try.underlying56
 have HR0_0 := am hr0_0
 have HC0_0 := am hc0_0
 clear hr0_0 hc0_0
 have HR0_1 := am hr0_1
 have HC0_1 := am hc0_1
 clear hr0_1 hc0_1
 have HB := am (Below.refl w.heap.size w)
 unfold spec_ShareBookOk.f at h
 have H := h
 clear h
 have HC2 := am H
 clear H
 go_enter Try.func22, Try.ntmps22
 go_upto_region 1 with (first | ((with_reducible refine gD 1 ?_); (try (refine gate_guard (by rfl) ?_; dsimp only)); refine bX 1 #[.slice A0_0 l0_0.length c0_0, .slice A0_1 l0_1.length c0_1] 31 ?_; intro gb101 hg w3 hbox hb; have BK101 := am (hbox); have GW101 := am (pY89 : w.heap.size ≤ gb101); have GE101 := am (pY89 : w.heap.size ≤ gb101); replace HB := bS pY95 hb; clear hb hbox hg))
 (try simp only [Act.put, List.setIfInBounds_toArray, List.set_cons_zero, List.set_cons_succ])
 go_cut [15] (fun v15 wc => ∃ (kq : Nat) (x15_1 : Bool), v15 = .bool x15_1 ∧ Aside0 (spec_ShareBookOk.j0 kq x15_1 l0_0 l0_1 = some r) ∧ Aside0 (kq ≤ k) ∧ Aside0 (wc.heap[gb101]? = some (.cells #[(.slice A0_0 l0_0.length c0_0), (.slice A0_1 l0_1.length c0_1)] 31 (0, 0))) ∧ Aside0 (Below w.heap.size w wc))
 case first =>
  have H := HC2.1
  clear HC2
  obtain ⟨t102, A4, H⟩ := bd H
  refine tC H ?_ ?_ <;> clear H <;> intro c5 H <;> subst c5
  ·have H' := am H
   clear H
   obtain ⟨hcz6_0, hcz6_1, hfz6_0, hfz6_1⟩ := cz2 BK101
   go_wp2_with (first | ((with_reducible refine gC 69 ?_); refine cQ (some 8) Try.func69 (spec_l1ThingsOk.calls k _ _ l0_0 true _ (pB HR0_0) HC0_0.1 A4.out) ?_; rintro w' ⟨nd, rfl⟩))
   go_meet
   case rel => exact ⟨_, (decide ((l0_1.length : Int) > 5)), (pY136), H', ⟨by first | omega | exact Nat.le_refl _⟩, ⟨rB BK101.1⟩, ⟨pY90⟩⟩
  ·have H' := am H
   clear H
   obtain ⟨hcz7_0, hcz7_1, hfz7_0, hfz7_1⟩ := cz2 BK101
   go_wp2_with (first | ((with_reducible refine gC 69 ?_); refine cQ (some 8) Try.func69 (spec_l1ThingsOk.calls k _ _ l0_0 false _ (pB HR0_0) HC0_0.1 A4.out) ?_; rintro w' ⟨nd, rfl⟩))
   go_meet
   case rel => exact ⟨_, (true), (pY136), H', ⟨by first | omega | exact Nat.le_refl _⟩, ⟨rB BK101.1⟩, ⟨pY90⟩⟩
 case rest =>
  clear HC2
  obtain ⟨kq, x15_1, rfl, HA, HJ1, BK101, HB⟩ := hcut
  cases kq with
  | zero => exact absurd HA.out (by simp [spec_ShareBookOk.j0])
  | succ kj1 =>
   have H := HA.out
   clear HA
   simp only [spec_ShareBookOk.j0] at H
   refine tC H ?_ ?_ <;> clear H <;> intro c8 H <;> subst c8
   ·obtain rfl := Option.some.inj H
    go_wp2
    go_ret
    exact ⟨eR, pY90⟩
   ·have H' := am H
    clear H
    go_wp2
    go_loopg [3] kj1 (fun kq v3 w' => ∃ (x3_2 : Int), v3 = .int .i64 x3_2 ∧ Aside0 (spec_ShareBookOk.l0 kq x3_2 l0_0 l0_1 = some r) ∧ Aside0 (kq ≤ kj1) ∧ Aside0 (w'.heap[gb101]? = some (.cells #[(.slice A0_0 l0_0.length c0_0), (.slice A0_1 l0_1.length c0_1)] 31 (0, 0))) ∧ Aside0 (Below w.heap.size w w'))
    case atStart => exact ⟨(0), (pY136), H', ⟨Nat.le_refl _⟩, ⟨rB BK101.1⟩, ⟨pY90⟩⟩
    case round =>
     clear H'
     try clear c8
     obtain ⟨x3_2, rfl, HA, HK2, BK101, HB⟩ := hrel
     cases gk with
     | zero => exact absurd HA.out (by simp [spec_ShareBookOk.l0])
     | succ k2 =>
      have H := HA.out
      clear HA
      simp only [spec_ShareBookOk.l0] at H
      refine ic H ?_ ?_ <;> clear H <;> intro c9b0 H
      ·obtain ⟨c10b0, H⟩ := cN H
       have HC11 := am H
       clear H
       obtain ⟨hcz12_0, hcz12_1, hfz12_0, hfz12_1⟩ := cz2 BK101
       obtain ⟨ad103, A103_1, c103_1, A103_2, c103_2, e103, hx103_0, hx103_1, hx103_2, HR103_1, HC103_1, HR103_2, HC103_2, p103, q103⟩ := aT56 HR0_1 HB x3_2
       cases e103
       go_upto_region 7 with (first | ((with_reducible refine gD 4 ?_); (try (refine gate_guard (by rfl) ?_; dsimp only)); refine bX 4 #[.string (⟨#[]⟩ : ByteArray), .slice none 0 0, .slice none 0 0] 56 ?_; intro gb104 hg w13 hbox hb; have BK104 := am (hbox); have GW104 := am (pY77 : w.heap.size ≤ gb104); have GE104 := am (pY77 : w.heap.size ≤ gb104); replace HB := bS pY90 hb; have NB101_104 := nL pY98 hg; have NB104_101 := nG pY98 hg; replace BK101 := bB pY98 hb; clear hb hbox hg; have hnb14 := NB104_101.1; have hnc14 := NB101_104.1; obtain ⟨hcz15_0, hcz15_1, hcz15_2, hfz15_0, hfz15_1, hfz15_2⟩ := cz3 BK104))
       (try simp only [Act.put, List.setIfInBounds_toArray, List.set_cons_zero, List.set_cons_succ])
       go_cut [63] (fun v63 wc => ∃ (kq : Nat) (x63_10 : Bool), v63 = .bool x63_10 ∧ Aside0 (spec_ShareBookOk.j2 kq x3_2 x63_10 l0_0 l0_1 ((rd_T56 l0_1 x3_2).f0) ((rd_T56 l0_1 x3_2).f1) ((rd_T56 l0_1 x3_2).f2) = some r) ∧ Aside0 (kq ≤ k2) ∧ Aside0 (wc.heap[gb101]? = some (.cells #[(.slice A0_0 l0_0.length c0_0), (.slice (some ad103) l0_1.length c0_1)] 31 (0, 0))) ∧ Aside0 (wc.heap[gb104]? = some (.cells #[.string ((rd_T56 l0_1 x3_2).f0), (.slice A103_1 ((rd_T56 l0_1 x3_2).f1).length c103_1), (.slice A103_2 ((rd_T56 l0_1 x3_2).f2).length c103_2)] 56 (0, 0))) ∧ Aside0 (Below w.heap.size w wc))
       case first =>
        have H := HC11.1
        clear HC11
        obtain ⟨t105, A16, H⟩ := bd H
        refine tC H ?_ ?_ <;> clear H <;> intro c17 H <;> subst c17
        ·by_cases c18 : x3_2 > 0
         ·rw [if_pos c18] at H
          have c18b0 : decide (0 < x3_2) = true := decide_eq_true c18
          clear c18
          (first | rw [c18b0] | (simp only [i64_w, i32_w]; rw [c18b0]) | skip)
          obtain ⟨ji19, hji19⟩ : ∃ j_ : Int, (wrap64 (x3_2 - 1)) = j_ := ⟨_, rfl⟩
          replace H : (if 0 ≤ (ji19) then (if (ji19) < (l0_1.length : Int) then (if ((Op.bytesLess (((rd_T56 l0_1 (ji19)).f0).toList) (((rd_T56 l0_1 x3_2).f0).toList)) = true) then ((spec_l1NamesOk.f k2 ((rd_T56 l0_1 x3_2).f2) l0_0).bind fun t107 => (if t107 = true then ((spec_l1NamesOk.f k2 ((rd_T56 l0_1 x3_2).f1) ((rd_T56 l0_1 x3_2).f2)).bind fun t108 => (spec_ShareBookOk.j2 k2 x3_2 (!t108) l0_0 l0_1 ((rd_T56 l0_1 x3_2).f0) ((rd_T56 l0_1 x3_2).f1) ((rd_T56 l0_1 x3_2).f2))) else (spec_ShareBookOk.j2 k2 x3_2 true l0_0 l0_1 ((rd_T56 l0_1 x3_2).f0) ((rd_T56 l0_1 x3_2).f1) ((rd_T56 l0_1 x3_2).f2)))) else (spec_ShareBookOk.j2 k2 x3_2 true l0_0 l0_1 ((rd_T56 l0_1 x3_2).f0) ((rd_T56 l0_1 x3_2).f1) ((rd_T56 l0_1 x3_2).f2))) else (none)) else (none)) = some r := by first | (rw [hji19] at H; exact H) | (simp only [hji19] at H ⊢; exact H)
          (try rw [hji19] at A16)
          have hji19w : (IntKind.i64.wrap (x3_2 - 1)) = ji19 := (i64_w _).trans hji19
          obtain ⟨c20b0, H⟩ := cN H
          obtain ⟨c21b0, H⟩ := cN H
          by_cases c22 : ((Op.bytesLess (((rd_T56 l0_1 (ji19)).f0).toList) (((rd_T56 l0_1 x3_2).f0).toList)) = true)
          ·rw [if_pos c22] at H
           have c22b0 : (Op.bytesLess (((rd_T56 l0_1 (ji19)).f0).toList) (((rd_T56 l0_1 x3_2).f0).toList)) = true := c22
           clear c22
           obtain ⟨t107, A23, H⟩ := bd H
           refine tC H ?_ ?_ <;> clear H <;> intro c24 H <;> subst c24
           ·obtain ⟨t108, A25, H⟩ := bd H
            have H' := am H
            clear H
            try go_wp2
            obtain ⟨w26, eW_⟩ : ∃ w_, w_ = (((w13.setCell ⟨gb104, 0, none⟩ (.string ((rd_T56 l0_1 x3_2).f0))).setCell ⟨gb104, 1, none⟩ (.slice A103_1 ((rd_T56 l0_1 x3_2).f1).length c103_1)).setCell ⟨gb104, 2, none⟩ (.slice A103_2 ((rd_T56 l0_1 x3_2).f2).length c103_2)) := ⟨_, rfl⟩
            rw [← eW_]
            replace BK101 := uF3 eW_ BK101 NB101_104
            replace BK104 := uP3 eW_ BK104
            replace HB := uC3 eW_ HB GE104
            clear eW_
            replace BK101 := am (blk_drew BK101.1)
            replace BK104 := am (blk_drew BK104.1)
            replace HB := am (below_drew1 HB.1)
            have p106 : 0 ≤ ((ji19) : Int) := oT
            have q106 : (ji19) < (l0_1.length : Int) := oT
            obtain ⟨ad106, A106_1, c106_1, A106_2, c106_2, e106, hx106_0, hx106_1, hx106_2, hl106_1, hi106_1, hl106_2, hi106_2⟩ := at_T56 HR0_1.1 (ji19) p106 q106
            have hw106_2 := hx106_2
            have hw106_1 := hx106_1
            have hw106_0 := hx106_0
            obtain rfl : ad103 = ad106 := (by injection e106)
            replace hx106_0 := hX HB hx106_0
            replace hx106_1 := hX HB hx106_1
            replace hx106_2 := hX HB hx106_2
            have HR106_1 := am hi106_1
            have HC106_1 := am hl106_1
            clear hi106_1 hl106_1
            have HR106_2 := am hi106_2
            have HC106_2 := am hl106_2
            clear hi106_2 hl106_2
            replace p106 := eq_true p106
            replace q106 := eq_true q106
            refine sT [] 36 (uB3 BK104 (uB2 BK101 (uBx HB hw106_0 (uBx HB hw106_1 (uAx HB hw106_2))))) (fun hHeld => ?_); refine with_tabW spec_ShareBookOk.tab7 spec_ShareBookOk.bits7 (fun HT_ HW_ => ?_)
            generalize w26.drew = w27 at BK101 BK104 HB HR106_1 HR106_2 hx106_0 hx106_1 hx106_2 hHeld ⊢
            refine pU 0 (some 28) ?_
            refine tK8 1 (some 29) ?_
            refine oN 2 (some 30) fun K hK => ?_
            refine gQ Try.func70 (spec_l1NameOk.calls k2 ((rd_T56 l0_1 x3_2).f0) true _ A16.out) ?_
            rintro w' ⟨nd, rfl⟩
            refine hK.out _ _ (uB3 BK104 (uB2 BK101 (uBx HB hw106_0 (uBx HB hw106_1 (uAx HB hw106_2))))).1 (fun hHeld => ?_)
            clear hK K
            refine nM ?_
            refine pU 3 (some 31) ?_
            refine pU 4 (some 32) ?_
            refine pU 5 (some 33) ?_
            refine pU 6 (some 34) ?_
            refine pU 7 (some 35) ?_
            refine pU 8 (some 36) ?_
            refine pU 10 (some 38) ?_
            refine pU 11 (some 39) ?_
            refine pU 15 (some 43) ?_
            refine tK8 9 (some 37) ?_
            refine pU 12 (some 40) ?_
            refine pU 13 (some 41) ?_
            refine tK8 14 (some 42) ?_
            refine tK8 16 (some 44) ?_
            refine pU 17 (some 45) ?_
            refine pU 18 (some 46) ?_
            refine pU 19 (some 47) ?_
            refine pU 20 (some 48) ?_
            refine pU 21 (some 49) ?_
            refine pU 23 (some 51) ?_
            refine tK8 22 (some 50) ?_
            refine tK8 24 (some 52) ?_
            refine oN 25 (some 53) fun K hK => ?_
            refine gQ Try.func71 (spec_l1NamesOk.calls k2 _ _ ((rd_T56 l0_1 x3_2).f2) _ _ l0_0 true _ (pC (Kd.C_below HR103_2.1 (pY79))) HC103_2.1 (pC (Kd.C_below HR0_0.1 (pY79))) HC0_0.1 A23.out) ?_
            rintro w' ⟨nd, rfl⟩
            refine hK.out _ _ (uB3 BK104 (uB2 BK101 (uBx HB hw106_0 (uBx HB hw106_1 (uAx HB hw106_2))))).1 (fun hHeld => ?_)
            clear hK K
            refine nM ?_
            refine pU 26 (some 54) ?_
            refine pU 27 (some 55) ?_
            refine pU 28 (some 56) ?_
            refine pU 29 (some 57) ?_
            refine pU 31 (some 59) ?_
            refine tK8 30 (some 58) ?_
            refine tK8 32 (some 60) ?_
            refine oN 33 (some 61) fun K hK => ?_
            refine gQ Try.func71 (spec_l1NamesOk.calls k2 _ _ ((rd_T56 l0_1 x3_2).f1) _ _ ((rd_T56 l0_1 x3_2).f2) t108 _ (pC (Kd.C_below HR103_1.1 (pY79))) HC103_1.1 (pC (Kd.C_below HR103_2.1 (pY79))) HC103_2.1 A25.out) ?_
            rintro w' ⟨nd, rfl⟩
            refine hK.out _ _ (uB3 BK104 (uB2 BK101 (uBx HB hw106_0 (uBx HB hw106_1 (uAx HB hw106_2))))).1 (fun hHeld => ?_)
            clear hK K
            refine nM ?_
            refine pU 34 (some 62) ?_
            refine pU 35 (some 63) ?_
            refine done_ (done_of HT_.out (by kernel_rfl)) ?_
            try go_wp2
            go_meet
            case rel => exact ⟨_, (!t108), (pY136), H', ⟨by have := HJ1.out; have := HK2.out; first | omega | exact Nat.le_refl _⟩, ⟨rB BK101.1⟩, ⟨rB BK104.1⟩, ⟨pY79⟩⟩
           ·have H' := am H
            clear H
            try go_wp2
            obtain ⟨w28, eW_⟩ : ∃ w_, w_ = (((w13.setCell ⟨gb104, 0, none⟩ (.string ((rd_T56 l0_1 x3_2).f0))).setCell ⟨gb104, 1, none⟩ (.slice A103_1 ((rd_T56 l0_1 x3_2).f1).length c103_1)).setCell ⟨gb104, 2, none⟩ (.slice A103_2 ((rd_T56 l0_1 x3_2).f2).length c103_2)) := ⟨_, rfl⟩
            rw [← eW_]
            replace BK101 := uF3 eW_ BK101 NB101_104
            replace BK104 := uP3 eW_ BK104
            replace HB := uC3 eW_ HB GE104
            clear eW_
            replace BK101 := am (blk_drew BK101.1)
            replace BK104 := am (blk_drew BK104.1)
            replace HB := am (below_drew1 HB.1)
            have p106 : 0 ≤ ((ji19) : Int) := oT
            have q106 : (ji19) < (l0_1.length : Int) := oT
            obtain ⟨ad106, A106_1, c106_1, A106_2, c106_2, e106, hx106_0, hx106_1, hx106_2, hl106_1, hi106_1, hl106_2, hi106_2⟩ := at_T56 HR0_1.1 (ji19) p106 q106
            have hw106_2 := hx106_2
            have hw106_1 := hx106_1
            have hw106_0 := hx106_0
            obtain rfl : ad103 = ad106 := (by injection e106)
            replace hx106_0 := hX HB hx106_0
            replace hx106_1 := hX HB hx106_1
            replace hx106_2 := hX HB hx106_2
            have HR106_1 := am hi106_1
            have HC106_1 := am hl106_1
            clear hi106_1 hl106_1
            have HR106_2 := am hi106_2
            have HC106_2 := am hl106_2
            clear hi106_2 hl106_2
            replace p106 := eq_true p106
            replace q106 := eq_true q106
            refine sT [] 36 (uB3 BK104 (uB2 BK101 (uBx HB hw106_0 (uBx HB hw106_1 (uAx HB hw106_2))))) (fun hHeld => ?_); refine with_tabW spec_ShareBookOk.tab7 spec_ShareBookOk.bits7 (fun HT_ HW_ => ?_)
            generalize w28.drew = w29 at BK101 BK104 HB HR106_1 HR106_2 hx106_0 hx106_1 hx106_2 hHeld ⊢
            refine pU 0 (some 28) ?_
            refine tK8 1 (some 29) ?_
            refine oN 2 (some 30) fun K hK => ?_
            refine gQ Try.func70 (spec_l1NameOk.calls k2 ((rd_T56 l0_1 x3_2).f0) true _ A16.out) ?_
            rintro w' ⟨nd, rfl⟩
            refine hK.out _ _ (uB3 BK104 (uB2 BK101 (uBx HB hw106_0 (uBx HB hw106_1 (uAx HB hw106_2))))).1 (fun hHeld => ?_)
            clear hK K
            refine nM ?_
            refine pU 3 (some 31) ?_
            refine pU 4 (some 32) ?_
            refine pU 5 (some 33) ?_
            refine pU 6 (some 34) ?_
            refine pU 7 (some 35) ?_
            refine pU 8 (some 36) ?_
            refine pU 10 (some 38) ?_
            refine pU 11 (some 39) ?_
            refine pU 15 (some 43) ?_
            refine tK8 9 (some 37) ?_
            refine pU 12 (some 40) ?_
            refine pU 13 (some 41) ?_
            refine tK8 14 (some 42) ?_
            refine tK8 16 (some 44) ?_
            refine pU 17 (some 45) ?_
            refine pU 18 (some 46) ?_
            refine pU 19 (some 47) ?_
            refine pU 20 (some 48) ?_
            refine pU 21 (some 49) ?_
            refine pU 23 (some 51) ?_
            refine tK8 22 (some 50) ?_
            refine tK8 24 (some 52) ?_
            refine oN 25 (some 53) fun K hK => ?_
            refine gQ Try.func71 (spec_l1NamesOk.calls k2 _ _ ((rd_T56 l0_1 x3_2).f2) _ _ l0_0 false _ (pC (Kd.C_below HR103_2.1 (pY79))) HC103_2.1 (pC (Kd.C_below HR0_0.1 (pY79))) HC0_0.1 A23.out) ?_
            rintro w' ⟨nd, rfl⟩
            refine hK.out _ _ (uB3 BK104 (uB2 BK101 (uBx HB hw106_0 (uBx HB hw106_1 (uAx HB hw106_2))))).1 (fun hHeld => ?_)
            clear hK K
            refine nM ?_
            refine pU 26 (some 54) ?_
            refine pU 27 (some 55) ?_
            refine pU 28 (some 56) ?_
            refine pV 29 (some 57) ?_
            refine pV 30 (some 58) ?_
            refine pV 31 (some 59) ?_
            refine pV 32 (some 60) ?_
            refine pV 33 (some 61) ?_
            refine pV 34 (some 62) ?_
            refine pU 35 (some 63) ?_
            refine done_ (done_of HT_.out (by kernel_rfl)) ?_
            try go_wp2
            go_meet
            case rel => exact ⟨_, (true), (pY136), H', ⟨by have := HJ1.out; have := HK2.out; first | omega | exact Nat.le_refl _⟩, ⟨rB BK101.1⟩, ⟨rB BK104.1⟩, ⟨pY79⟩⟩
          ·rw [if_neg c22] at H
           have c22b0 : (Op.bytesLess (((rd_T56 l0_1 (ji19)).f0).toList) (((rd_T56 l0_1 x3_2).f0).toList)) = false := by simpa using c22
           clear c22
           have H' := am H
           clear H
           try go_wp2
           obtain ⟨w30, eW_⟩ : ∃ w_, w_ = (((w13.setCell ⟨gb104, 0, none⟩ (.string ((rd_T56 l0_1 x3_2).f0))).setCell ⟨gb104, 1, none⟩ (.slice A103_1 ((rd_T56 l0_1 x3_2).f1).length c103_1)).setCell ⟨gb104, 2, none⟩ (.slice A103_2 ((rd_T56 l0_1 x3_2).f2).length c103_2)) := ⟨_, rfl⟩
           rw [← eW_]
           replace BK101 := uF3 eW_ BK101 NB101_104
           replace BK104 := uP3 eW_ BK104
           replace HB := uC3 eW_ HB GE104
           clear eW_
           replace BK101 := am (blk_drew BK101.1)
           replace BK104 := am (blk_drew BK104.1)
           replace HB := am (below_drew1 HB.1)
           have p106 : 0 ≤ ((ji19) : Int) := oT
           have q106 : (ji19) < (l0_1.length : Int) := oT
           obtain ⟨ad106, A106_1, c106_1, A106_2, c106_2, e106, hx106_0, hx106_1, hx106_2, hl106_1, hi106_1, hl106_2, hi106_2⟩ := at_T56 HR0_1.1 (ji19) p106 q106
           have hw106_2 := hx106_2
           have hw106_1 := hx106_1
           have hw106_0 := hx106_0
           obtain rfl : ad103 = ad106 := (by injection e106)
           replace hx106_0 := hX HB hx106_0
           replace hx106_1 := hX HB hx106_1
           replace hx106_2 := hX HB hx106_2
           have HR106_1 := am hi106_1
           have HC106_1 := am hl106_1
           clear hi106_1 hl106_1
           have HR106_2 := am hi106_2
           have HC106_2 := am hl106_2
           clear hi106_2 hl106_2
           replace p106 := eq_true p106
           replace q106 := eq_true q106
           refine sT [] 36 (uB3 BK104 (uB2 BK101 (uBx HB hw106_0 (uBx HB hw106_1 (uAx HB hw106_2))))) (fun hHeld => ?_); refine with_tabW spec_ShareBookOk.tab7 spec_ShareBookOk.bits7 (fun HT_ HW_ => ?_)
           generalize w30.drew = w31 at BK101 BK104 HB HR106_1 HR106_2 hx106_0 hx106_1 hx106_2 hHeld ⊢
           refine pU 0 (some 28) ?_
           refine tK8 1 (some 29) ?_
           refine oN 2 (some 30) fun K hK => ?_
           refine gQ Try.func70 (spec_l1NameOk.calls k2 ((rd_T56 l0_1 x3_2).f0) true _ A16.out) ?_
           rintro w' ⟨nd, rfl⟩
           refine hK.out _ _ (uB3 BK104 (uB2 BK101 (uBx HB hw106_0 (uBx HB hw106_1 (uAx HB hw106_2))))).1 (fun hHeld => ?_)
           clear hK K
           refine nM ?_
           refine pU 3 (some 31) ?_
           refine pU 4 (some 32) ?_
           refine pU 5 (some 33) ?_
           refine pU 6 (some 34) ?_
           refine pU 7 (some 35) ?_
           refine pU 8 (some 36) ?_
           refine pU 10 (some 38) ?_
           refine pU 11 (some 39) ?_
           refine pU 15 (some 43) ?_
           refine tK8 9 (some 37) ?_
           refine pU 12 (some 40) ?_
           refine pU 13 (some 41) ?_
           refine tK8 14 (some 42) ?_
           refine tK8 16 (some 44) ?_
           refine pU 17 (some 45) ?_
           refine pU 18 (some 46) ?_
           refine pU 19 (some 47) ?_
           refine pU 20 (some 48) ?_
           refine pV 21 (some 49) ?_
           refine pV 22 (some 50) ?_
           refine pV 23 (some 51) ?_
           refine pV 24 (some 52) ?_
           refine pV 25 (some 53) ?_
           refine pV 26 (some 54) ?_
           refine pU 27 (some 55) ?_
           refine pU 28 (some 56) ?_
           refine pV 29 (some 57) ?_
           refine pV 30 (some 58) ?_
           refine pV 31 (some 59) ?_
           refine pV 32 (some 60) ?_
           refine pV 33 (some 61) ?_
           refine pV 34 (some 62) ?_
           refine pU 35 (some 63) ?_
           refine done_ (done_of HT_.out (by kernel_rfl)) ?_
           try go_wp2
           go_meet
           case rel => exact ⟨_, (true), (pY136), H', ⟨by have := HJ1.out; have := HK2.out; first | omega | exact Nat.le_refl _⟩, ⟨rB BK101.1⟩, ⟨rB BK104.1⟩, ⟨pY79⟩⟩
         ·rw [if_neg c18] at H
          have c18b0 : decide (0 < x3_2) = false := decide_eq_false c18
          clear c18
          (first | rw [c18b0] | (simp only [i64_w, i32_w]; rw [c18b0]) | skip)
          obtain ⟨t109, A32, H⟩ := bd H
          refine tC H ?_ ?_ <;> clear H <;> intro c33 H <;> subst c33
          ·obtain ⟨t110, A34, H⟩ := bd H
           have H' := am H
           clear H
           try go_wp2
           obtain ⟨w35, eW_⟩ : ∃ w_, w_ = (((w13.setCell ⟨gb104, 0, none⟩ (.string ((rd_T56 l0_1 x3_2).f0))).setCell ⟨gb104, 1, none⟩ (.slice A103_1 ((rd_T56 l0_1 x3_2).f1).length c103_1)).setCell ⟨gb104, 2, none⟩ (.slice A103_2 ((rd_T56 l0_1 x3_2).f2).length c103_2)) := ⟨_, rfl⟩
           rw [← eW_]
           replace BK101 := uF3 eW_ BK101 NB101_104
           replace BK104 := uP3 eW_ BK104
           replace HB := uC3 eW_ HB GE104
           clear eW_
           replace BK101 := am (blk_drew BK101.1)
           replace BK104 := am (blk_drew BK104.1)
           replace HB := am (below_drew1 HB.1)
           refine sT [] 36 (uB3 BK104 (uA2 BK101)) (fun hHeld => ?_); refine with_tabW spec_ShareBookOk.tab7 spec_ShareBookOk.bits7 (fun HT_ HW_ => ?_)
           generalize w35.drew = w36 at BK101 BK104 HB hHeld ⊢
           refine pU 0 (some 28) ?_
           refine tK5 1 (some 29) ?_
           refine oN 2 (some 30) fun K hK => ?_
           refine gQ Try.func70 (spec_l1NameOk.calls k2 ((rd_T56 l0_1 x3_2).f0) true _ A16.out) ?_
           rintro w' ⟨nd, rfl⟩
           refine hK.out _ _ (uB3 BK104 (uA2 BK101)).1 (fun hHeld => ?_)
           clear hK K
           refine nM ?_
           refine pU 3 (some 31) ?_
           refine pU 4 (some 32) ?_
           refine pU 5 (some 33) ?_
           refine pU 6 (some 34) ?_
           refine pU 7 (some 35) ?_
           refine pV 8 (some 36) ?_
           refine pV 9 (some 37) ?_
           refine pV 10 (some 38) ?_
           refine pV 11 (some 39) ?_
           refine pV 12 (some 40) ?_
           refine pV 13 (some 41) ?_
           refine pV 14 (some 42) ?_
           refine pV 15 (some 43) ?_
           refine pV 16 (some 44) ?_
           refine pV 17 (some 45) ?_
           refine pU 18 (some 46) ?_
           refine pU 19 (some 47) ?_
           refine pU 20 (some 48) ?_
           refine pU 21 (some 49) ?_
           refine pU 23 (some 51) ?_
           refine tK5 22 (some 50) ?_
           refine tK5 24 (some 52) ?_
           refine oN 25 (some 53) fun K hK => ?_
           refine gQ Try.func71 (spec_l1NamesOk.calls k2 _ _ ((rd_T56 l0_1 x3_2).f2) _ _ l0_0 true _ (pC (Kd.C_below HR103_2.1 (pY79))) HC103_2.1 (pC (Kd.C_below HR0_0.1 (pY79))) HC0_0.1 A32.out) ?_
           rintro w' ⟨nd, rfl⟩
           refine hK.out _ _ (uB3 BK104 (uA2 BK101)).1 (fun hHeld => ?_)
           clear hK K
           refine nM ?_
           refine pU 26 (some 54) ?_
           refine pU 27 (some 55) ?_
           refine pU 28 (some 56) ?_
           refine pU 29 (some 57) ?_
           refine pU 31 (some 59) ?_
           refine tK5 30 (some 58) ?_
           refine tK5 32 (some 60) ?_
           refine oN 33 (some 61) fun K hK => ?_
           refine gQ Try.func71 (spec_l1NamesOk.calls k2 _ _ ((rd_T56 l0_1 x3_2).f1) _ _ ((rd_T56 l0_1 x3_2).f2) t110 _ (pC (Kd.C_below HR103_1.1 (pY79))) HC103_1.1 (pC (Kd.C_below HR103_2.1 (pY79))) HC103_2.1 A34.out) ?_
           rintro w' ⟨nd, rfl⟩
           refine hK.out _ _ (uB3 BK104 (uA2 BK101)).1 (fun hHeld => ?_)
           clear hK K
           refine nM ?_
           refine pU 34 (some 62) ?_
           refine pU 35 (some 63) ?_
           refine done_ (done_of HT_.out (by kernel_rfl)) ?_
           try go_wp2
           go_meet
           case rel => exact ⟨_, (!t110), (pY136), H', ⟨by have := HJ1.out; have := HK2.out; first | omega | exact Nat.le_refl _⟩, ⟨rB BK101.1⟩, ⟨rB BK104.1⟩, ⟨pY79⟩⟩
          ·have H' := am H
           clear H
           try go_wp2
           obtain ⟨w37, eW_⟩ : ∃ w_, w_ = (((w13.setCell ⟨gb104, 0, none⟩ (.string ((rd_T56 l0_1 x3_2).f0))).setCell ⟨gb104, 1, none⟩ (.slice A103_1 ((rd_T56 l0_1 x3_2).f1).length c103_1)).setCell ⟨gb104, 2, none⟩ (.slice A103_2 ((rd_T56 l0_1 x3_2).f2).length c103_2)) := ⟨_, rfl⟩
           rw [← eW_]
           replace BK101 := uF3 eW_ BK101 NB101_104
           replace BK104 := uP3 eW_ BK104
           replace HB := uC3 eW_ HB GE104
           clear eW_
           replace BK101 := am (blk_drew BK101.1)
           replace BK104 := am (blk_drew BK104.1)
           replace HB := am (below_drew1 HB.1)
           refine sT [] 36 (uB3 BK104 (uA2 BK101)) (fun hHeld => ?_); refine with_tabW spec_ShareBookOk.tab7 spec_ShareBookOk.bits7 (fun HT_ HW_ => ?_)
           generalize w37.drew = w38 at BK101 BK104 HB hHeld ⊢
           refine pU 0 (some 28) ?_
           refine tK5 1 (some 29) ?_
           refine oN 2 (some 30) fun K hK => ?_
           refine gQ Try.func70 (spec_l1NameOk.calls k2 ((rd_T56 l0_1 x3_2).f0) true _ A16.out) ?_
           rintro w' ⟨nd, rfl⟩
           refine hK.out _ _ (uB3 BK104 (uA2 BK101)).1 (fun hHeld => ?_)
           clear hK K
           refine nM ?_
           refine pU 3 (some 31) ?_
           refine pU 4 (some 32) ?_
           refine pU 5 (some 33) ?_
           refine pU 6 (some 34) ?_
           refine pU 7 (some 35) ?_
           refine pV 8 (some 36) ?_
           refine pV 9 (some 37) ?_
           refine pV 10 (some 38) ?_
           refine pV 11 (some 39) ?_
           refine pV 12 (some 40) ?_
           refine pV 13 (some 41) ?_
           refine pV 14 (some 42) ?_
           refine pV 15 (some 43) ?_
           refine pV 16 (some 44) ?_
           refine pV 17 (some 45) ?_
           refine pU 18 (some 46) ?_
           refine pU 19 (some 47) ?_
           refine pU 20 (some 48) ?_
           refine pU 21 (some 49) ?_
           refine pU 23 (some 51) ?_
           refine tK5 22 (some 50) ?_
           refine tK5 24 (some 52) ?_
           refine oN 25 (some 53) fun K hK => ?_
           refine gQ Try.func71 (spec_l1NamesOk.calls k2 _ _ ((rd_T56 l0_1 x3_2).f2) _ _ l0_0 false _ (pC (Kd.C_below HR103_2.1 (pY79))) HC103_2.1 (pC (Kd.C_below HR0_0.1 (pY79))) HC0_0.1 A32.out) ?_
           rintro w' ⟨nd, rfl⟩
           refine hK.out _ _ (uB3 BK104 (uA2 BK101)).1 (fun hHeld => ?_)
           clear hK K
           refine nM ?_
           refine pU 26 (some 54) ?_
           refine pU 27 (some 55) ?_
           refine pU 28 (some 56) ?_
           refine pV 29 (some 57) ?_
           refine pV 30 (some 58) ?_
           refine pV 31 (some 59) ?_
           refine pV 32 (some 60) ?_
           refine pV 33 (some 61) ?_
           refine pV 34 (some 62) ?_
           refine pU 35 (some 63) ?_
           refine done_ (done_of HT_.out (by kernel_rfl)) ?_
           try go_wp2
           go_meet
           case rel => exact ⟨_, (true), (pY136), H', ⟨by have := HJ1.out; have := HK2.out; first | omega | exact Nat.le_refl _⟩, ⟨rB BK101.1⟩, ⟨rB BK104.1⟩, ⟨pY79⟩⟩
        ·have H' := am H
         clear H
         try go_wp2
         obtain ⟨w39, eW_⟩ : ∃ w_, w_ = (((w13.setCell ⟨gb104, 0, none⟩ (.string ((rd_T56 l0_1 x3_2).f0))).setCell ⟨gb104, 1, none⟩ (.slice A103_1 ((rd_T56 l0_1 x3_2).f1).length c103_1)).setCell ⟨gb104, 2, none⟩ (.slice A103_2 ((rd_T56 l0_1 x3_2).f2).length c103_2)) := ⟨_, rfl⟩
         rw [← eW_]
         replace BK101 := uF3 eW_ BK101 NB101_104
         replace BK104 := uP3 eW_ BK104
         replace HB := uC3 eW_ HB GE104
         clear eW_
         replace BK101 := am (blk_drew BK101.1)
         replace BK104 := am (blk_drew BK104.1)
         replace HB := am (below_drew1 HB.1)
         refine sT [] 36 (uA3 BK104) (fun hHeld => ?_); refine with_tabW spec_ShareBookOk.tab7 spec_ShareBookOk.bits7 (fun HT_ HW_ => ?_)
         generalize w39.drew = w40 at BK101 BK104 HB hHeld ⊢
         refine pU 0 (some 28) ?_
         refine tK3 1 (some 29) ?_
         refine oN 2 (some 30) fun K hK => ?_
         refine gQ Try.func70 (spec_l1NameOk.calls k2 ((rd_T56 l0_1 x3_2).f0) false _ A16.out) ?_
         rintro w' ⟨nd, rfl⟩
         refine hK.out _ _ (uA3 BK104).1 (fun hHeld => ?_)
         clear hK K
         refine nM ?_
         refine pU 3 (some 31) ?_
         refine pU 4 (some 32) ?_
         refine pV 5 (some 33) ?_
         refine pV 6 (some 34) ?_
         refine pV 7 (some 35) ?_
         refine pV 8 (some 36) ?_
         refine pV 9 (some 37) ?_
         refine pV 10 (some 38) ?_
         refine pV 11 (some 39) ?_
         refine pV 12 (some 40) ?_
         refine pV 13 (some 41) ?_
         refine pV 14 (some 42) ?_
         refine pV 15 (some 43) ?_
         refine pV 16 (some 44) ?_
         refine pV 17 (some 45) ?_
         refine pV 18 (some 46) ?_
         refine pU 19 (some 47) ?_
         refine pU 20 (some 48) ?_
         refine pV 21 (some 49) ?_
         refine pV 22 (some 50) ?_
         refine pV 23 (some 51) ?_
         refine pV 24 (some 52) ?_
         refine pV 25 (some 53) ?_
         refine pV 26 (some 54) ?_
         refine pU 27 (some 55) ?_
         refine pU 28 (some 56) ?_
         refine pV 29 (some 57) ?_
         refine pV 30 (some 58) ?_
         refine pV 31 (some 59) ?_
         refine pV 32 (some 60) ?_
         refine pV 33 (some 61) ?_
         refine pV 34 (some 62) ?_
         refine pU 35 (some 63) ?_
         refine done_ (done_of HT_.out (by kernel_rfl)) ?_
         try go_wp2
         go_meet
         case rel => exact ⟨_, (true), (pY136), H', ⟨by have := HJ1.out; have := HK2.out; first | omega | exact Nat.le_refl _⟩, ⟨rB BK101.1⟩, ⟨rB BK104.1⟩, ⟨pY79⟩⟩
       case rest =>
        clear HC11
        obtain ⟨kq, x63_10, rfl, HA, HJ10, BK101, BK104, HB⟩ := hcut
        cases kq with
        | zero => exact absurd HA.out (by simp [spec_ShareBookOk.j2])
        | succ kj10 =>
         have H := HA.out
         clear HA
         simp only [spec_ShareBookOk.j2] at H
         refine tC H ?_ ?_ <;> clear H <;> intro c41 H <;> subst c41
         ·obtain rfl := Option.some.inj H
          go_wp2
          go_ret
          exact ⟨eR, pY79⟩
         ·have H' := am H
          clear H
          go_wp2
          go_loopg [5] kj10 (fun kq v5 w' => ∃ (x5_4 : Int), v5 = .int .i64 x5_4 ∧ Aside0 (spec_ShareBookOk.l1 kq x3_2 x5_4 l0_0 l0_1 ((rd_T56 l0_1 x3_2).f0) ((rd_T56 l0_1 x3_2).f1) ((rd_T56 l0_1 x3_2).f2) = some r) ∧ Aside0 (kq ≤ kj10) ∧ Aside0 (w'.heap[gb101]? = some (.cells #[(.slice A0_0 l0_0.length c0_0), (.slice (some ad103) l0_1.length c0_1)] 31 (0, 0))) ∧ Aside0 (w'.heap[gb104]? = some (.cells #[.string ((rd_T56 l0_1 x3_2).f0), (.slice A103_1 ((rd_T56 l0_1 x3_2).f1).length c103_1), (.slice A103_2 ((rd_T56 l0_1 x3_2).f2).length c103_2)] 56 (0, 0))) ∧ Aside0 (Below w.heap.size w w'))
          case atStart => exact ⟨(0), (pY136), H', ⟨Nat.le_refl _⟩, ⟨rB BK101.1⟩, ⟨rB BK104.1⟩, ⟨pY79⟩⟩
          case round =>
           clear H'
           try clear c41
           obtain ⟨x5_4, rfl, HA, HK4, BK101, BK104, HB⟩ := hrel
           cases gk with
           | zero => exact absurd HA.out (by simp [spec_ShareBookOk.l1])
           | succ k4 =>
            have H := HA.out
            clear HA
            simp only [spec_ShareBookOk.l1] at H
            refine ic H ?_ ?_ <;> clear H <;> intro c42b0 H
            ·obtain ⟨c43b0, H⟩ := cN H
             obtain ⟨c44b0, H⟩ := cN H
             obtain ⟨t112, A45, H⟩ := bd H
             refine tC H ?_ ?_ <;> clear H <;> intro c46 H <;> subst c46
             ·obtain rfl := Option.some.inj H
              try go_wp2
              replace BK101 := am (blk_drew BK101.1)
              replace BK104 := am (blk_drew BK104.1)
              replace HB := am (below_drew1 HB.1)
              have p111 : 0 ≤ (x5_4 : Int) := oT
              have q111 : x5_4 < (l0_1.length : Int) := oT
              obtain ⟨ad111, A111_1, c111_1, A111_2, c111_2, e111, hx111_0, hx111_1, hx111_2, hl111_1, hi111_1, hl111_2, hi111_2⟩ := at_T56 HR0_1.1 x5_4 p111 q111
              have hw111_2 := hx111_2
              have hw111_1 := hx111_1
              have hw111_0 := hx111_0
              obtain rfl : ad103 = ad111 := (by injection e111)
              replace hx111_0 := hX HB hx111_0
              replace hx111_1 := hX HB hx111_1
              replace hx111_2 := hX HB hx111_2
              have HR111_1 := am hi111_1
              have HC111_1 := am hl111_1
              clear hi111_1 hl111_1
              have HR111_2 := am hi111_2
              have HC111_2 := am hl111_2
              clear hi111_2 hl111_2
              replace p111 := eq_true p111
              replace q111 := eq_true q111
              refine sT [] 9 (uB3 BK104 (uB2 BK101 (uBx HB hw111_0 (uBx HB hw111_1 (uAx HB hw111_2))))) (fun hHeld => ?_); refine with_tabW spec_ShareBookOk.tab12 spec_ShareBookOk.bits12 (fun HT_ HW_ => ?_)
              generalize wr.drew = w47 at BK101 BK104 HB HR111_1 HR111_2 hx111_0 hx111_1 hx111_2 hHeld ⊢
              refine pU 0 (some 69) ?_
              refine pU 2 (some 71) ?_
              refine pU 4 (some 73) ?_
              refine tK8 1 (some 70) ?_
              refine tK8 3 (some 72) ?_
              refine pU 5 (some 74) ?_
              refine pU 6 (some 75) ?_
              refine tK8 7 (some 76) ?_
              refine oN 8 (some 77) fun K hK => ?_
              refine gQ Try.func72 (spec_l1Share.calls k4 _ _ ((rd_T56 l0_1 x3_2).f1) _ _ ((rd_T56 l0_1 x5_4).f1) true _ (pB HR103_1) HC103_1.1 (pB HR111_1) HC111_1.1 A45.out) ?_
              rintro w' ⟨nd, rfl⟩
              refine hK.out _ _ (uB3 BK104 (uB2 BK101 (uBx HB hw111_0 (uBx HB hw111_1 (uAx HB hw111_2))))).1 (fun hHeld => ?_)
              clear hK K
              refine nM ?_
              refine done_ (done_of HT_.out (by kernel_rfl)) ?_
              try go_wp2
              go_ret
              exact ⟨eR, pY79⟩
             ·have H' := am H
              clear H
              try go_wp2
              replace BK101 := am (blk_drew BK101.1)
              replace BK104 := am (blk_drew BK104.1)
              replace HB := am (below_drew1 HB.1)
              have p111 : 0 ≤ (x5_4 : Int) := oT
              have q111 : x5_4 < (l0_1.length : Int) := oT
              obtain ⟨ad111, A111_1, c111_1, A111_2, c111_2, e111, hx111_0, hx111_1, hx111_2, hl111_1, hi111_1, hl111_2, hi111_2⟩ := at_T56 HR0_1.1 x5_4 p111 q111
              have hw111_2 := hx111_2
              have hw111_1 := hx111_1
              have hw111_0 := hx111_0
              obtain rfl : ad103 = ad111 := (by injection e111)
              replace hx111_0 := hX HB hx111_0
              replace hx111_1 := hX HB hx111_1
              replace hx111_2 := hX HB hx111_2
              have HR111_1 := am hi111_1
              have HC111_1 := am hl111_1
              clear hi111_1 hl111_1
              have HR111_2 := am hi111_2
              have HC111_2 := am hl111_2
              clear hi111_2 hl111_2
              replace p111 := eq_true p111
              replace q111 := eq_true q111
              refine sT [] 9 (uB3 BK104 (uB2 BK101 (uBx HB hw111_0 (uBx HB hw111_1 (uAx HB hw111_2))))) (fun hHeld => ?_); refine with_tabW spec_ShareBookOk.tab12 spec_ShareBookOk.bits12 (fun HT_ HW_ => ?_)
              generalize wr.drew = w48 at BK101 BK104 HB HR111_1 HR111_2 hx111_0 hx111_1 hx111_2 hHeld ⊢
              refine pU 0 (some 69) ?_
              refine pU 2 (some 71) ?_
              refine pU 4 (some 73) ?_
              refine tK8 1 (some 70) ?_
              refine tK8 3 (some 72) ?_
              refine pU 5 (some 74) ?_
              refine pU 6 (some 75) ?_
              refine tK8 7 (some 76) ?_
              refine oN 8 (some 77) fun K hK => ?_
              refine gQ Try.func72 (spec_l1Share.calls k4 _ _ ((rd_T56 l0_1 x3_2).f1) _ _ ((rd_T56 l0_1 x5_4).f1) false _ (pB HR103_1) HC103_1.1 (pB HR111_1) HC111_1.1 A45.out) ?_
              rintro w' ⟨nd, rfl⟩
              refine hK.out _ _ (uB3 BK104 (uB2 BK101 (uBx HB hw111_0 (uBx HB hw111_1 (uAx HB hw111_2))))).1 (fun hHeld => ?_)
              clear hK K
              refine nM ?_
              refine done_ (done_of HT_.out (by kernel_rfl)) ?_
              try go_wp2
              go_roundg k4
              case measure => have := HJ1.out; have := HK2.out; have := HJ10.out; have := HK4.out; omega
              case rel => exact ⟨(wrap64 (x5_4 + 1)), (pY136), H', ⟨by have := HJ1.out; have := HK2.out; have := HJ10.out; have := HK4.out; omega⟩, ⟨rB BK101.1⟩, ⟨rB BK104.1⟩, ⟨pY79⟩⟩
            ·have H' := am H
             clear H
             go_wp2
             go_roundg k4
             case measure => have := HJ1.out; have := HK2.out; have := HJ10.out; have := HK4.out; omega
             case rel => exact ⟨(wrap64 (x3_2 + 1)), (pY136), H', ⟨by have := HJ1.out; have := HK2.out; have := HJ10.out; have := HK4.out; omega⟩, ⟨rB BK101.1⟩, ⟨pY79⟩⟩
      ·obtain rfl := Option.some.inj H
       obtain ⟨hcz49_0, hcz49_1, hfz49_0, hfz49_1⟩ := cz2 BK101
       go_wp2
       go_ret
       exact ⟨eR, pY90⟩
end Go.Proofs.Ytaofjgnhapnndaa.Q
namespace Go.Proofs.Ytaofjgnhapnndaa.Q
open Go.RowKit Go.Proofs.YtaofjgnhapnndaaW.PrintWords Go.Proofs.YtaofjgnhapnndaaW.PrintLast Go.Proofs.YtaofjgnhapnndaaW.PrintMore
set_option linter.unusedVariables false
set_option linter.unusedSimpArgs false
mutual
def spec_ShareWho.l0 : Nat → ByteArray → Int → List ByteArray → List (S56) → Option (ByteArray)
 | 0, _, _, _, _ => none
 | k + 1, x1, x5, x102000, x102001 => if x5 < (x102001.length : Int) then ((spec_ShareBookOk.f k x102000 x102001).bind fun t102 => (spec_ShareWho.j1 k x1 x5 t102 x102000 x102001)) else (spec_ShareWho.j1 k x1 x5 false x102000 x102001)
def spec_ShareWho.j1 : Nat → ByteArray → Int → Bool → List ByteArray → List (S56) → Option (ByteArray)
 | 0, _, _, _, _, _ => none
 | k + 1, x1, x5, x14, x102000, x102001 => if x14 = true then (if 0 ≤ x5 then (if x5 < (x102001.length : Int) then ((spec_l1Has.f k ((rd_T56 x102001 x5).f1) x1).bind fun t104 => (if t104 = true then (some ((rd_T56 x102001 x5).f0)) else (spec_ShareWho.l0 k x1 (wrap64 (x5 + 1)) x102000 x102001))) else (none)) else (none)) else (some (⟨#[]⟩ : ByteArray))
end
def spec_ShareWho.f (k : Nat) (l0_0 : List ByteArray) (l0_1 : List (S56)) (a1 : ByteArray) : Option (ByteArray) := spec_ShareWho.l0 k a1 0 l0_0 l0_1
theorem spec_ShareWho.calls (k : Nat) (A0_0 : Option Addr) (c0_0 : Nat) (l0_0 : List ByteArray) (A0_1 : Option Addr) (c0_1 : Nat) (l0_1 : List (S56)) (a1 : ByteArray) (r : ByteArray) (w : World) (hr0_0 : Kd.C Kd.string w A0_0 l0_0.length l0_0) (hc0_0 : l0_0.length ≤ c0_0) (hr0_1 : Kd.C k56 w A0_1 l0_1.length l0_1) (hc0_1 : l0_1.length ≤ c0_1) (h : spec_ShareWho.f k l0_0 l0_1 a1 = some r) :
  Calls Try.prog 26 #[.agg #[.slice A0_0 l0_0.length c0_0, .slice A0_1 l0_1.length c0_1], .string a1] w fun e w' => e = .returned (.string r) ∧ Below w.heap.size w w' := by
 have hu31 := Try.underlying31
 have HR0_0 := am hr0_0
 have HC0_0 := am hc0_0
 clear hr0_0 hc0_0
 have HR0_1 := am hr0_1
 have HC0_1 := am hc0_1
 clear hr0_1 hc0_1
 have HB := am (Below.refl w.heap.size w)
 unfold spec_ShareWho.f at h
 have H := h
 clear h
 have H' := am H
 clear H
 go_enter Try.func26, Try.ntmps26
 go_wp2_with (first | ((with_reducible refine gD 2 ?_); refine bX 2 #[.slice A0_0 l0_0.length c0_0, .slice A0_1 l0_1.length c0_1] 31 ?_; intro gb101 hg w3 hbox hb; have BK101 := am (hbox); have GW101 := am (pY89 : w.heap.size ≤ gb101); have GE101 := am (pY89 : w.heap.size ≤ gb101); replace HB := bS pY95 hb; clear hb hbox hg))
 go_loopg [5] k (fun kq v5 w' => ∃ (x5_1 : Int), v5 = .int .i64 x5_1 ∧ Aside0 (spec_ShareWho.l0 kq a1 x5_1 l0_0 l0_1 = some r) ∧ Aside0 (kq ≤ k) ∧ Aside0 (w'.heap[gb101]? = some (.cells #[(.slice A0_0 l0_0.length c0_0), (.slice A0_1 l0_1.length c0_1)] 31 (0, 0))) ∧ Aside0 (Below w.heap.size w w'))
 case atStart => exact ⟨(0), (pY136), H', ⟨Nat.le_refl _⟩, ⟨rB BK101.1⟩, ⟨pY90⟩⟩
 case round =>
  clear H'
  obtain ⟨x5_1, rfl, HA, HK1, BK101, HB⟩ := hrel
  cases gk with
  | zero => exact absurd HA.out (by simp [spec_ShareWho.l0])
  | succ k1 =>
   have H := HA.out
   clear HA
   simp only [spec_ShareWho.l0] at H
   have HC4 := am H
   clear H
   go_upto_region 2 with ((fail))
   go_cut [14] (fun v14 wc => ∃ (kq : Nat) (x14_3 : Bool), v14 = .bool x14_3 ∧ Aside0 (spec_ShareWho.j1 kq a1 x5_1 x14_3 l0_0 l0_1 = some r) ∧ Aside0 (kq ≤ k1) ∧ Aside0 (wc.heap[gb101]? = some (.cells #[(.slice A0_0 l0_0.length c0_0), (.slice A0_1 l0_1.length c0_1)] 31 (0, 0))) ∧ Aside0 (Below w.heap.size w wc))
   case first =>
    have H := HC4.1
    clear HC4
    refine ic H ?_ ?_ <;> clear H <;> intro c5b0 H
    ·(first | rw [c5b0] | (simp only [i64_w, i32_w]; rw [c5b0]) | skip)
     obtain ⟨t102, A6, H⟩ := bd H
     have H' := am H
     clear H
     obtain ⟨hcz7_0, hcz7_1, hfz7_0, hfz7_1⟩ := cz2 BK101
     go_wp2_with (first | (go_at_call 22; refine cM (spec_ShareBookOk.calls k1 _ _ l0_0 _ _ l0_1 t102 _ (pB HR0_0) HC0_0.1 (pB HR0_1) HC0_1.1 A6.out) ?_; rintro w8 hb; replace BK101 := bB pY98 hb; replace HB := bS pY90 hb; (try clear hb)))
     go_meet
     case rel => exact ⟨_, (t102), (pY136), H', ⟨by have := HK1.out; first | omega | exact Nat.le_refl _⟩, ⟨rB BK101.1⟩, ⟨pY90⟩⟩
    ·(first | rw [c5b0] | (simp only [i64_w, i32_w]; rw [c5b0]) | skip)
     have H' := am H
     clear H
     obtain ⟨hcz9_0, hcz9_1, hfz9_0, hfz9_1⟩ := cz2 BK101
     go_wp2
     go_meet
     case rel => exact ⟨_, (false), (pY136), H', ⟨by have := HK1.out; first | omega | exact Nat.le_refl _⟩, ⟨rB BK101.1⟩, ⟨pY90⟩⟩
   case rest =>
    clear HC4
    obtain ⟨kq, x14_3, rfl, HA, HJ3, BK101, HB⟩ := hcut
    cases kq with
    | zero => exact absurd HA.out (by simp [spec_ShareWho.j1])
    | succ kj3 =>
     have H := HA.out
     clear HA
     simp only [spec_ShareWho.j1] at H
     refine tC H ?_ ?_ <;> clear H <;> intro c10 H <;> subst c10
     ·obtain ⟨c11b0, H⟩ := cN H
      obtain ⟨c12b0, H⟩ := cN H
      obtain ⟨t104, A13, H⟩ := bd H
      refine tC H ?_ ?_ <;> clear H <;> intro c14 H <;> subst c14
      ·obtain rfl := Option.some.inj H
       obtain ⟨hcz15_0, hcz15_1, hfz15_0, hfz15_1⟩ := cz2 BK101
       obtain ⟨ad103, A103_1, c103_1, A103_2, c103_2, e103, hx103_0, hx103_1, hx103_2, HR103_1, HC103_1, HR103_2, HC103_2, p103, q103⟩ := aT56 HR0_1 HB x5_1
       cases e103
       go_wp2_with (first | ((with_reducible refine gC 80 ?_); refine cQ (some 24) Try.func80 (spec_l1Has.calls kj3 _ _ ((rd_T56 l0_1 x5_1).f1) a1 true _ (pB HR103_1) HC103_1.1 A13.out) ?_; rintro w' ⟨nd, rfl⟩; obtain ⟨ad105, A105_1, c105_1, A105_2, c105_2, e105, hx105_0, hx105_1, hx105_2, HR105_1, HC105_1, HR105_2, HC105_2, p105, q105⟩ := aT56 HR0_1 HB x5_1; obtain rfl : ad103 = ad105 := (by injection e105); have ea_ := Option.some.inj (hx103_1.symm.trans hx105_1); injection ea_ with ea_ en_ ec_; subst ea_; subst ec_; clear en_; have ea_ := Option.some.inj (hx103_2.symm.trans hx105_2); injection ea_ with ea_ en_ ec_; subst ea_; subst ec_; clear en_))
       go_ret
       exact ⟨eR, pY90⟩
      ·have H' := am H
       clear H
       obtain ⟨hcz16_0, hcz16_1, hfz16_0, hfz16_1⟩ := cz2 BK101
       obtain ⟨ad103, A103_1, c103_1, A103_2, c103_2, e103, hx103_0, hx103_1, hx103_2, HR103_1, HC103_1, HR103_2, HC103_2, p103, q103⟩ := aT56 HR0_1 HB x5_1
       cases e103
       go_wp2_with (first | ((with_reducible refine gC 80 ?_); refine cQ (some 24) Try.func80 (spec_l1Has.calls kj3 _ _ ((rd_T56 l0_1 x5_1).f1) a1 false _ (pB HR103_1) HC103_1.1 A13.out) ?_; rintro w' ⟨nd, rfl⟩))
       go_roundg kj3
       case measure => have := HK1.out; have := HJ3.out; omega
       case rel => exact ⟨(wrap64 (x5_1 + 1)), (pY136), H', ⟨by have := HK1.out; have := HJ3.out; omega⟩, ⟨rB BK101.1⟩, ⟨pY90⟩⟩
     ·obtain rfl := Option.some.inj H
      go_wp2
      go_ret
      exact ⟨eR, pY90⟩
end Go.Proofs.Ytaofjgnhapnndaa.Q
namespace Go.Proofs.Ytaofjgnhapnndaa.Q
open Go.RowKit Go.Proofs.YtaofjgnhapnndaaW.PrintWords Go.Proofs.YtaofjgnhapnndaaW.PrintLast Go.Proofs.YtaofjgnhapnndaaW.PrintMore
set_option linter.unusedVariables false
set_option linter.unusedSimpArgs false
def slices_Index_string_string.l0 : Nat → List ByteArray → ByteArray → Int → Int → Option (Int)
 | 0, _, _, _, _ => none
 | k + 1, x0, x1, x7, x8 => if x8 < x7 then (if 0 ≤ x8 then (if x8 < (x0.length : Int) then (if x1.toList = (rdOf ByteArray.empty x0 x8).toList then (some x8) else (slices_Index_string_string.l0 k x0 x1 x7 (wrap64 (x8 + 1)))) else (none)) else (none)) else (some (-1))
def slices_Index_string_string.f (k : Nat) (l0 : List ByteArray) (a1 : ByteArray) : Option (Int) := slices_Index_string_string.l0 k l0 a1 (l0.length : Int) 0
theorem slices_Index_string_string.mono_l : ∀ k, (∀ y0 y1 y2 y3, LeO (slices_Index_string_string.l0 k y0 y1 y2 y3) (slices_Index_string_string.l0 (k + 1) y0 y1 y2 y3))
 | 0 => fun _ _ _ _ r h => by simp [slices_Index_string_string.l0] at h
 | k + 1 => by
  have ih0 := slices_Index_string_string.mono_l k
  ·intro y0 y1 y2 y3
   unfold slices_Index_string_string.l0
   repeat' first
   | (with_reducible exact ih0 _ _ _ _)
   | (with_reducible exact LeO.refl _)
   | (with_reducible exact LeO.none _)
   | (with_reducible refine LeO.ite ?_ ?_)
   | (with_reducible refine LeO.bind ?_ (fun _ => ?_))
   | exact ih0 _ _ _ _
   | exact LeO.none _
   | refine LeO.ite ?_ ?_
   | refine LeO.bind ?_ (fun _ => ?_)
theorem slices_Index_string_string.mono : ∀ a0 a1 k, LeO (slices_Index_string_string.f k a0 a1) (slices_Index_string_string.f (k + 1) a0 a1) := by
 intro a0 a1 k
 have ih0 := slices_Index_string_string.mono_l k
 unfold slices_Index_string_string.f
 repeat' first
   | (with_reducible exact ih0 _ _ _ _)
   | (with_reducible exact LeO.refl _)
   | (with_reducible exact LeO.none _)
   | (with_reducible refine LeO.ite ?_ ?_)
   | (with_reducible refine LeO.bind ?_ (fun _ => ?_))
   | exact ih0 _ _ _ _
   | exact LeO.none _
   | refine LeO.ite ?_ ?_
   | refine LeO.bind ?_ (fun _ => ?_)
theorem slices_Index_string_string.calls (k : Nat) (A0 : Option Addr) (c0 : Nat) (l0 : List ByteArray) (a1 : ByteArray) (r : Int) (w : World) (hr0 : Kd.C Kd.string w A0 l0.length l0) (hc0 : l0.length ≤ c0) (h : slices_Index_string_string.f k l0 a1 = some r) :
  Calls Try.prog 116 #[.slice A0 l0.length c0, .string a1] w fun e w' => e = .returned (.int .i64 r) ∧ Drawn0 w w' := by
 have HR0 := am hr0
 have HC0 := am hc0
 clear hr0 hc0
 unfold slices_Index_string_string.f at h
 have H := h
 clear h
 have H' := am H
 clear H
 go_enter Try.func116, Try.ntmps116
 go_wp2
 go_loopg [8] k (fun kq v8 w' => ∃ (x8_1 : Int), v8 = .int .i64 x8_1 ∧ Aside0 (slices_Index_string_string.l0 kq l0 a1 (l0.length : Int) x8_1 = some r) ∧ Aside0 (kq ≤ k) ∧ Drawn0 w w')
 case atStart => exact ⟨(0), (pY136), H', ⟨Nat.le_refl _⟩, pY133⟩
 case round =>
  clear H'
  obtain ⟨x8_1, rfl, HA, HK1, ⟨m1, rfl⟩⟩ := hrel
  cases gk with
  | zero => exact absurd HA.out (by simp [slices_Index_string_string.l0])
  | succ k1 =>
   have H := HA.out
   clear HA
   simp only [slices_Index_string_string.l0] at H
   refine ic H ?_ ?_ <;> clear H <;> intro c3b0 H
   ·obtain ⟨c4b0, H⟩ := cN H
    obtain ⟨c5b0, H⟩ := cN H
    by_cases c6 : a1.toList = (rdOf ByteArray.empty l0 x8_1).toList
    ·rw [if_pos c6] at H
     have c6b0 : (a1.toList == (rdOf ByteArray.empty l0 x8_1).toList) = true := beq_iff_eq.mpr c6
     have c6b1 : (a1.toList != (rdOf ByteArray.empty l0 x8_1).toList) = false := bne_eq_false_iff_eq.mpr c6
     clear c6
     obtain rfl := Option.some.inj H
     obtain ⟨ad101, e101, hx101_0, p101, q101⟩ := aS HR0 b0 x8_1
     cases e101
     go_wp2
     go_ret
     exact ⟨by first | rfl | (simp; done) | (simp [*]; done), pY133⟩
    ·rw [if_neg c6] at H
     have c6b0 : (a1.toList == (rdOf ByteArray.empty l0 x8_1).toList) = false := beq_eq_false_iff_ne.mpr c6
     have c6b1 : (a1.toList != (rdOf ByteArray.empty l0 x8_1).toList) = true := bne_iff_ne.mpr c6
     have H' := am H
     clear H
     obtain ⟨ad101, e101, hx101_0, p101, q101⟩ := aS HR0 b0 x8_1
     cases e101
     go_wp2
     go_roundg k1
     case measure => have := HK1.out; omega
     case rel => exact ⟨(wrap64 (x8_1 + 1)), (pY136), H', ⟨by have := HK1.out; omega⟩, pY133⟩
   ·obtain rfl := Option.some.inj H
    go_wp2
    go_ret
    exact ⟨by first | rfl | (simp; done) | (simp [*]; done), pY133⟩
def slices_Contains_string_string.f (k : Nat) (l0 : List ByteArray) (a1 : ByteArray) : Option (Bool) := (slices_Index_string_string.f k l0 a1).bind fun t101 => (some (decide (t101 ≥ 0)))
theorem slices_Contains_string_string.mono : ∀ a0 a1 k, LeO (slices_Contains_string_string.f k a0 a1) (slices_Contains_string_string.f (k + 1) a0 a1) := by
 intro a0 a1 k
 unfold slices_Contains_string_string.f
 repeat' first
   | (with_reducible exact slices_Index_string_string.mono _ _ _)
   | (with_reducible exact LeO.refl _)
   | (with_reducible exact LeO.none _)
   | (with_reducible refine LeO.ite ?_ ?_)
   | (with_reducible refine LeO.bind ?_ (fun _ => ?_))
   | exact slices_Index_string_string.mono _ _ _
   | exact LeO.none _
   | refine LeO.ite ?_ ?_
   | refine LeO.bind ?_ (fun _ => ?_)
theorem slices_Contains_string_string.calls (k : Nat) (A0 : Option Addr) (c0 : Nat) (l0 : List ByteArray) (a1 : ByteArray) (r : Bool) (w : World) (hr0 : Kd.C Kd.string w A0 l0.length l0) (hc0 : l0.length ≤ c0) (h : slices_Contains_string_string.f k l0 a1 = some r) :
  Calls Try.prog 81 #[.slice A0 l0.length c0, .string a1] w fun e w' => e = .returned (.bool r) ∧ Drawn0 w w' := by
 have HR0 := am hr0
 have HC0 := am hc0
 clear hr0 hc0
 unfold slices_Contains_string_string.f at h
 have H := h
 clear h
 obtain ⟨t101, A3, H⟩ := bd H
 obtain rfl := Option.some.inj H
 go_enter Try.func81, Try.ntmps81
 go_wp2_with (first | ((with_reducible refine gC 116 ?_); refine cQ (some 7) Try.func116 (slices_Index_string_string.calls k _ _ l0 a1 t101 _ (pC HR0.1) HC0.1 A3.out) ?_; rintro w' ⟨nd, rfl⟩))
 go_ret
 exact ⟨by first | rfl | (simp; done) | (simp [*]; done), pY133⟩
def impl_of.l0 : Nat → List ByteArray → List ByteArray → List ByteArray → Int → Int → Option (Bool)
 | 0, _, _, _, _, _ => none
 | k + 1, x0, x1, x7, x8, x9 => if x9 < x8 then (if 0 ≤ x9 then (if x9 < (x7.length : Int) then ((slices_Contains_string_string.f k x1 (rdOf ByteArray.empty x7 x9)).bind fun t102 => (if t102 = true then (if x9 > 0 then (if 0 ≤ (wrap64 (x9 - 1)) then (if (wrap64 (x9 - 1)) < (x0.length : Int) then (if ((Op.bytesLess ((rdOf ByteArray.empty x0 (wrap64 (x9 - 1))).toList) ((rdOf ByteArray.empty x7 x9).toList)) = true) then (impl_of.l0 k x0 x1 x7 x8 (wrap64 (x9 + 1))) else (some false)) else (none)) else (none)) else (impl_of.l0 k x0 x1 x7 x8 (wrap64 (x9 + 1)))) else (some false))) else (none)) else (none)) else (some true)
def impl_of.f (k : Nat) (l0 : List ByteArray) (l1 : List ByteArray) : Option (Bool) := impl_of.l0 k l0 l1 l0 (l0.length : Int) 0
theorem impl_of.calls (k : Nat) (A0 : Option Addr) (c0 : Nat) (l0 : List ByteArray) (A1 : Option Addr) (c1 : Nat) (l1 : List ByteArray) (r : Bool) (w : World) (hr0 : Kd.C Kd.string w A0 l0.length l0) (hc0 : l0.length ≤ c0) (hr1 : Kd.C Kd.string w A1 l1.length l1) (hc1 : l1.length ≤ c1) (h : impl_of.f k l0 l1 = some r) :
  Calls Try.prog 74 #[.slice A0 l0.length c0, .slice A1 l1.length c1] w fun e w' => e = .returned (.bool r) ∧ Drawn0 w w' := by
 have HR0 := am hr0
 have HC0 := am hc0
 clear hr0 hc0
 have HR1 := am hr1
 have HC1 := am hc1
 clear hr1 hc1
 unfold impl_of.f at h
 have H := h
 clear h
 have H' := am H
 clear H
 go_enter Try.func74, Try.ntmps74
 go_wp2
 go_loopg [9] k (fun kq v9 w' => ∃ (x9_1 : Int), v9 = .int .i64 x9_1 ∧ Aside0 (impl_of.l0 kq l0 l1 l0 (l0.length : Int) x9_1 = some r) ∧ Aside0 (kq ≤ k) ∧ Drawn0 w w')
 case atStart => exact ⟨(0), (pY136), H', ⟨Nat.le_refl _⟩, pY133⟩
 case round =>
  clear H'
  try clear c1
  obtain ⟨x9_1, rfl, HA, HK1, ⟨m1, rfl⟩⟩ := hrel
  cases gk with
  | zero => exact absurd HA.out (by simp [impl_of.l0])
  | succ k1 =>
   have H := HA.out
   clear HA
   simp only [impl_of.l0] at H
   refine ic H ?_ ?_ <;> clear H <;> intro c3b0 H
   obtain ⟨c4b0, H⟩ := cN H
   obtain ⟨c5b0, H⟩ := cN H
   obtain ⟨t102, A6, H⟩ := bd H
   refine tC H ?_ ?_ <;> clear H <;> intro c7 H <;> subst c7
   by_cases c8 : x9_1 > 0
   rw [if_pos c8] at H
   have c8b0 : decide (0 < x9_1) = true := decide_eq_true c8
   clear c8
   obtain ⟨ji9, hji9⟩ : ∃ j_ : Int, (wrap64 (x9_1 - 1)) = j_ := ⟨_, rfl⟩
   replace H : (if 0 ≤ (ji9) then (if (ji9) < (l0.length : Int) then (if ((Op.bytesLess ((rdOf ByteArray.empty l0 (ji9)).toList) ((rdOf ByteArray.empty l0 x9_1).toList)) = true) then (impl_of.l0 k1 l0 l1 l0 (l0.length : Int) (wrap64 (x9_1 + 1))) else (some false)) else (none)) else (none)) = some r := by first | (rw [hji9] at H; exact H) | (simp only [hji9] at H ⊢; exact H)
   (try rw [hji9] at A6)
   have hji9w : (IntKind.i64.wrap (x9_1 - 1)) = ji9 := (i64_w _).trans hji9
   obtain ⟨c10b0, H⟩ := cN H
   obtain ⟨c11b0, H⟩ := cN H
   by_cases c12 : ((Op.bytesLess ((rdOf ByteArray.empty l0 (ji9)).toList) ((rdOf ByteArray.empty l0 x9_1).toList)) = true)
   rw [if_pos c12] at H
   have c12b0 : (Op.bytesLess ((rdOf ByteArray.empty l0 (ji9)).toList) ((rdOf ByteArray.empty l0 x9_1).toList)) = true := c12
   clear c12
   have H' := am H
   clear H
   obtain ⟨ad101, e101, hx101_0, p101, q101⟩ := aS HR0 b0 x9_1
   cases e101
   have M6_ := trivial
   rotate_left
   rw [if_neg c12] at H
   have c12b0 : (Op.bytesLess ((rdOf ByteArray.empty l0 (ji9)).toList) ((rdOf ByteArray.empty l0 x9_1).toList)) = false := by simpa using c12
   clear c12
   obtain rfl := Option.some.inj H
   obtain ⟨ad101, e101, hx101_0, p101, q101⟩ := aS HR0 b0 x9_1
   cases e101
   have M6_ := trivial
   rotate_left
   rw [if_neg c8] at H
   have c8b0 : decide (0 < x9_1) = false := decide_eq_false c8
   clear c8
   have H' := am H
   clear H
   obtain ⟨ad101, e101, hx101_0, p101, q101⟩ := aS HR0 b0 x9_1
   cases e101
   have M7_ := trivial
   rotate_left
   obtain rfl := Option.some.inj H
   obtain ⟨ad101, e101, hx101_0, p101, q101⟩ := aS HR0 b0 x9_1
   cases e101
   have M8_ := trivial
   rotate_left
   obtain rfl := Option.some.inj H
   rotate_left
   all_goals
    go_wp2_with (first | ((with_reducible refine gC 81 ?_); clear M6_; refine cQ (some 16) Try.func81 (slices_Contains_string_string.calls k1 _ _ l1 (rdOf ByteArray.empty l0 x9_1) true _ (pC HR1.1) HC1.1 A6.out) ?_; rintro w' ⟨nd, rfl⟩; obtain ⟨ad103, e103, hx103_0, p103, q103⟩ := aS HR0 b0 (ji9); obtain rfl : ad101 = ad103 := (by injection e103)) | ((with_reducible refine gC 81 ?_); clear M7_; refine cQ (some 16) Try.func81 (slices_Contains_string_string.calls k1 _ _ l1 (rdOf ByteArray.empty l0 x9_1) true _ (pC HR1.1) HC1.1 A6.out) ?_; rintro w' ⟨nd, rfl⟩) | ((with_reducible refine gC 81 ?_); clear M8_; refine cQ (some 16) Try.func81 (slices_Contains_string_string.calls k1 _ _ l1 (rdOf ByteArray.empty l0 x9_1) false _ (pC HR1.1) HC1.1 A6.out) ?_; rintro w' ⟨nd, rfl⟩))
   ·go_roundg k1
    case measure => have := HK1.out; omega
    case rel => exact ⟨(wrap64 (x9_1 + 1)), (pY136), H', ⟨by have := HK1.out; omega⟩, pY133⟩
   ·go_ret
    exact ⟨by first | rfl | (simp; done) | (simp only [← hji9] <;> (first | rfl | simp)) | (simp [*]; done), pY133⟩
   ·go_roundg k1
    case measure => have := HK1.out; omega
    case rel => exact ⟨(wrap64 (x9_1 + 1)), (pY136), H', ⟨by have := HK1.out; omega⟩, pY133⟩
   ·go_ret
    exact ⟨by first | rfl | (simp; done) | (simp [*]; done), pY133⟩
   ·go_ret
    exact ⟨by first | rfl | (simp; done) | (simp [*]; done), pY133⟩
def hasS (l : List ByteArray) (s : ByteArray) : Bool := l.any fun x => s.toList == x.toList
theorem wrap_succ {i n : Nat} (h : i < n) (hn : n ≤ 9223372036854775807) : wrap64 ((i : Int) + 1) = ((i + 1 : Nat) : Int) := by
  unfold wrap64; omega
theorem rdOf_nat {α : Type} (d : α) (l : List α) (i : Nat) (h : i < l.length) : rdOf d l (i : Int) = l[i] := by
  unfold rdOf; simp [List.getD_eq_getElem?_getD, h]
theorem index_go (l : List ByteArray) (s : ByteArray) (hl : l.length ≤ 9223372036854775807) : ∀ (d k i : Nat), l.length - i = d → i ≤ l.length → d < k →
    ∃ r, slices_Index_string_string.l0 k l s (l.length : Int) (i : Int) = some r ∧ decide (r ≥ 0) = (l.drop i).any fun x => s.toList == x.toList := by
  intro d
  induction d with
  | zero =>
    intro k i hd hi hk
    obtain ⟨k, rfl⟩ : ∃ m, k = m + 1 := ⟨k - 1, by omega⟩
    have : i = l.length := by omega
    subst this
    refine ⟨-1, ?_, by simp⟩
    simp only [slices_Index_string_string.l0]
    rw [if_neg (by omega)]
  | succ d ih =>
    intro k i hd hi hk
    obtain ⟨k, rfl⟩ : ∃ m, k = m + 1 := ⟨k - 1, by omega⟩
    have hlt : i < l.length := by omega
    rw [List.drop_eq_getElem_cons hlt]
    simp only [slices_Index_string_string.l0, List.any_cons]
    rw [if_pos (by omega), if_pos (by omega), if_pos (by omega), rdOf_nat _ _ _ hlt]
    by_cases e : s.toList = l[i].toList
    · exact ⟨i, by rw [if_pos e], by simp [e]⟩
    · obtain ⟨r, hr, h⟩ := ih k (i + 1) (by omega) (by omega) (by omega)
      refine ⟨r, ?_, by rw [h]; simp [e]⟩
      rw [if_neg e, wrap_succ hlt hl]
      exact hr
theorem contains_at (l : List ByteArray) (s : ByteArray) (hl : l.length ≤ 9223372036854775807) : slices_Contains_string_string.f (l.length + 1) l s = some (hasS l s) := by
  obtain ⟨r, hr, h⟩ := index_go l s hl l.length (l.length + 1) 0 (by omega) (by omega) (by omega)
  unfold slices_Contains_string_string.f slices_Index_string_string.f
  rw [show slices_Index_string_string.l0 (l.length + 1) l s (l.length : Int) 0 = some r from hr]
  simp only [Option.bind_some]
  rw [h]
  rfl
end Go.Proofs.Ytaofjgnhapnndaa.Q
