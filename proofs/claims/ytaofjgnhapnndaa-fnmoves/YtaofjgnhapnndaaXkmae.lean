/- Texts that the row needs: words on memory and rows, the contracts of the functions it reaches, and the plain lemmas on what they compute. -/
import Derived.Test.YtaofjgnhapnndaaRows
import Derived.ProofKit
import Derived.Test.YtaofjgnhapnndaaXkmad
set_option maxHeartbeats 8000000
set_option maxRecDepth 100000
open Go.Proofs.YtaofjgnhapnndaaFkm
namespace Go.Proofs.Ytaofjgnhapnndaa.Q
open Go.RowKit Go.Proofs.YtaofjgnhapnndaaW.PrintWords Go.Proofs.YtaofjgnhapnndaaW.PrintLast Go.Proofs.YtaofjgnhapnndaaW.PrintMore
set_option linter.unusedVariables false
set_option linter.unusedSimpArgs false
theorem wordsSigns_word : ∀ (w r : List Char), (∀ c ∈ w, c ≠ Char.ofNat 32) → wordsSigns (w ++ Char.ofNat 32 :: r) = w :: wordsSigns r
  | [], r, _ => rfl
  | c :: w, r, h => by
    have ih := wordsSigns_word w r (fun d hd => h d (List.mem_cons_of_mem _ hd))
    have hc : c ≠ Char.ofNat 32 := h c List.mem_cons_self
    rw [List.cons_append, wordsSigns.eq_3 _ _ (fun e => hc e), ih]
theorem and_of {a b : Bool} (ha : a = true) (hb : b = true) : (a && b) = true := by rw [ha, hb]; rfl
noncomputable def orderSigns : List Char := List.map Char.ofNat [104, 97, 114, 110, 101, 115, 115, 32, 49, 97, 97, 102, 48, 49, 57, 50, 55, 56, 49, 54, 50, 51, 99, 56, 99, 53, 100, 102, 97, 53, 55, 48, 102, 97, 55, 55, 101, 56, 54, 50, 99, 52, 54, 54, 101, 56, 50, 100, 51, 52, 51, 49, 98, 99, 97, 97, 50, 56, 55, 52, 54, 55, 53, 101, 54, 101, 51, 56, 53, 55, 99, 50, 32, 99, 117, 116, 32, 97, 116, 32, 108, 111, 111, 112, 46, 101, 120, 97, 109, 112, 108, 101, 47, 109, 97, 108, 116, 115, 104, 97, 114, 101, 47, 108, 97, 119, 115, 46, 70, 110, 69, 120, 97, 99, 116, 67, 111, 110, 115, 116, 97, 110, 116, 115, 32, 108, 111, 111, 112, 46, 101, 120, 97, 109, 112, 108, 101, 47, 109, 97, 108, 116, 115, 104, 97, 114, 101, 47, 108, 97, 119, 115, 46, 70, 110, 69, 120, 97, 99, 116, 83, 104, 97, 114, 101, 66, 111, 111, 107, 79, 107, 32, 108, 111, 111, 112, 46, 101, 120, 97, 109, 112, 108, 101, 47, 109, 97, 108, 116, 115, 104, 97, 114, 101, 47, 108, 97, 119, 115, 46, 70, 110, 69, 120, 97, 99, 116, 83, 104, 97, 114, 101, 87, 104, 111, 32, 108, 111, 111, 112, 46, 101, 120, 97, 109, 112, 108, 101, 47, 109, 97, 108, 116, 115, 104, 97, 114, 101, 47, 108, 97, 119, 115, 46, 70, 110, 69, 120, 97, 99, 116, 83, 104, 97, 114, 101, 83, 116, 117, 99, 107, 32, 108, 111, 111, 112, 46, 101, 120, 97, 109, 112, 108, 101, 47, 109, 97, 108, 116, 115, 104, 97, 114, 101, 47, 108, 97, 119, 115, 46, 70, 110, 69, 120, 97, 99, 116, 83, 104, 97, 114, 101, 70, 105, 116, 115, 32, 108, 111, 111, 112, 46, 101, 120, 97, 109, 112, 108, 101, 47, 109, 97, 108, 116, 115, 104, 97, 114, 101, 47, 108, 97, 119, 115, 46, 70, 110, 69, 120, 97, 99, 116, 83, 104, 97, 114, 101, 83, 97, 102, 101, 32, 108, 111, 111, 112, 46, 101, 120, 97, 109, 112, 108, 101, 47, 109, 97, 108, 116, 115, 104, 97, 114, 101, 47, 108, 97, 119, 115, 46, 70, 110, 69, 120, 97, 99, 116, 83, 104, 97, 114, 101, 87, 97, 105, 116, 115, 32, 108, 111, 111, 112, 46, 101, 120, 97, 109, 112, 108, 101, 47, 109, 97, 108, 116, 115, 104, 97, 114, 101, 47, 108, 97, 119, 115, 46, 70, 110, 69, 120, 97, 99, 116, 83, 104, 97, 114, 101, 77, 111, 118, 101, 115, 32, 108, 111, 111, 112, 46, 101, 120, 97, 109, 112, 108, 101, 47, 109, 97, 108, 116, 115, 104, 97, 114, 101, 47, 108, 97, 119, 115, 46, 70, 110, 69, 120, 97, 99, 116, 83, 104, 97, 114, 101, 79, 114, 100, 101, 114, 32, 108, 111, 111, 112, 46, 101, 120, 97, 109, 112, 108, 101, 47, 109, 97, 108, 116, 115, 104, 97, 114, 101, 47, 108, 97, 119, 115, 46, 70, 110, 69, 120, 97, 99, 116, 83, 104, 97, 114, 101, 76, 101, 97, 118, 101, 32, 108, 111, 111, 112, 46, 101, 120, 97, 109, 112, 108, 101, 47, 109, 97, 108, 116, 115, 104, 97, 114, 101, 47, 108, 97, 119, 115, 46, 70, 110, 69, 120, 97, 99, 116, 83, 104, 97, 114, 101, 76, 101, 115, 115, 32, 108, 111, 111, 112, 46, 101, 120, 97, 109, 112, 108, 101, 47, 109, 97, 108, 116, 115, 104, 97, 114, 101, 47, 108, 97, 119, 115, 46, 70, 110, 87, 104, 111, 32, 108, 111, 111, 112, 46, 101, 120, 97, 109, 112, 108, 101, 47, 109, 97, 108, 116, 115, 104, 97, 114, 101, 47, 108, 97, 119, 115, 46, 70, 110, 79, 114, 100, 101, 114, 32, 108, 111, 111, 112, 46, 101, 120, 97, 109, 112, 108, 101, 47, 109, 97, 108, 116, 115, 104, 97, 114, 101, 47, 108, 97, 119, 115, 46, 70, 110, 77, 111, 118, 101, 115, 32, 108, 111, 111, 112, 46, 101, 120, 97, 109, 112, 108, 101, 47, 109, 97, 108, 116, 115, 104, 97, 114, 101, 47, 108, 97, 119, 115, 46, 70, 110, 69, 120, 97, 99, 116, 83, 104, 97, 114, 101, 69, 110, 116, 101, 114, 32, 108, 111, 111, 112, 46, 101, 120, 97, 109, 112, 108, 101, 47, 109, 97, 108, 116, 115, 104, 97, 114, 101, 47, 108, 97, 119, 115, 46, 70, 110, 69, 120, 97, 99, 116, 83, 104, 97, 114, 101, 65, 115, 107, 32, 108, 111, 111, 112, 46, 101, 120, 97, 109, 112, 108, 101, 47, 109, 97, 108, 116, 115, 104, 97, 114, 101, 47, 108, 97, 119, 115, 46, 70, 110, 65, 115, 107, 32, 108, 111, 111, 112, 46, 101, 120, 97, 109, 112, 108, 101, 47, 109, 97, 108, 116, 115, 104, 97, 114, 101, 47, 108, 97, 119, 115, 46, 70, 110, 76, 101, 115, 115]
theorem order_eq : Try.prog.initOrder = String.ofList orderSigns := by kernel_rfl
theorem order_list : Try.prog.initOrder.toList = orderSigns := (congrArg String.toList order_eq).trans String.toList_ofList
noncomputable def headWord : List Char := (orderSigns.drop 8).take 64
theorem head_eq : orderSigns = "harness".toList ++ Char.ofNat 32 :: (headWord ++ Char.ofNat 32 :: ("cut".toList ++ Char.ofNat 32 :: orderSigns.drop 77)) := by kernel_rfl
theorem headWord_all : (headWord.all fun c => c != Char.ofNat 32) = true := by kernel_rfl
theorem headWord_sum : isSumSigns headWord = true := by kernel_rfl
theorem main_word : ∃ R, behindMainWord (wordsSigns Try.prog.initOrder.toList) = "cut".toList :: R := by
 refine ⟨wordsSigns (orderSigns.drop 77), ?_⟩
 have h1 : ∀ c ∈ "harness".toList, c ≠ Char.ofNat 32 := by decide
 have h3 : ∀ c ∈ "cut".toList, c ≠ Char.ofNat 32 := by decide
 have h2 : ∀ c ∈ headWord, c ≠ Char.ofNat 32 := fun c hc => by
   have := List.all_eq_true.1 headWord_all c hc
   simpa using this
 have e : wordsSigns Try.prog.initOrder.toList = "harness".toList :: headWord :: "cut".toList :: wordsSigns (orderSigns.drop 77) :=
   (congrArg wordsSigns (order_list.trans head_eq)).trans (by rw [wordsSigns_word _ _ h1, wordsSigns_word _ _ h2, wordsSigns_word _ _ h3])
 rw [e]
 generalize wordsSigns (orderSigns.drop 77) = R
 unfold behindMainWord
 exact if_pos (by rw [headWord_sum, beq_self_eq_true]; rfl)
theorem l_cut : "cut".toList = [Char.ofNat 99, Char.ofNat 117, Char.ofNat 116] := (String.toList_ofList : (String.ofList [Char.ofNat 99, Char.ofNat 117, Char.ofNat 116]).toList = _)
theorem l_gc : "gc".toList = [Char.ofNat 103, Char.ofNat 99] := (String.toList_ofList : (String.ofList [Char.ofNat 103, Char.ofNat 99]).toList = _)
theorem l_spec : "spec".toList = [Char.ofNat 115, Char.ofNat 112, Char.ofNat 101, Char.ofNat 99] := (String.toList_ofList : (String.ofList [Char.ofNat 115, Char.ofNat 112, Char.ofNat 101, Char.ofNat 99]).toList = _)
theorem l_carried : "carried".toList = [Char.ofNat 99, Char.ofNat 97, Char.ofNat 114, Char.ofNat 114, Char.ofNat 105, Char.ofNat 101, Char.ofNat 100] := (String.toList_ofList : (String.ofList [Char.ofNat 99, Char.ofNat 97, Char.ofNat 114, Char.ofNat 114, Char.ofNat 105, Char.ofNat 101, Char.ofNat 100]).toList = _)
theorem n_gc : ("cut".toList == "gc".toList) = false := by rw [l_cut, l_gc]; decide
theorem n_spec : ("cut".toList == "spec".toList) = false := by rw [l_cut, l_spec]; decide
theorem n_carried : ("cut".toList == "carried".toList) = false := by rw [l_cut, l_carried]; decide
theorem y_cut : ("cut".toList == "cut".toList) = true := beq_self_eq_true _
theorem n_carried' (R : List (List Char)) : (("cut".toList :: R).head? == some "carried".toList) = false := by
 rw [List.head?_cons, l_cut, l_carried]; decide
theorem y_cut' (R : List (List Char)) : (("cut".toList :: R).head? == some "cut".toList) = true := by rw [List.head?_cons]; exact beq_self_eq_true _
theorem strip_cut (R : List (List Char)) : stripLifts liftWords ("cut".toList :: R) = ([], "cut".toList :: R) := by rfl
theorem laysLater_no : Try.prog.laysLater = false := by kernel_rfl
theorem bearsReflect_no : Try.prog.bearsReflect = false := by kernel_rfl
theorem doorFits_nil : Try.prog.doorFits [] = true := by kernel_rfl
theorem mayEnter_of (P : Program) (R : List (List Char)) (h : behindMainWord (wordsSigns P.initOrder.toList) = "cut".toList :: R) (h1 : P.laysLater = false) (h2 : P.bearsReflect = false) (h3 : P.doorFits [] = true) : P.mayEnter = true := by
 unfold Program.mayEnter
 rw [h]
 simp only [strip_cut, h1, h2, h3, n_gc, n_spec, n_carried, y_cut']
 rfl
theorem headLifts_of (P : Program) (R : List (List Char)) (h : behindMainWord (wordsSigns P.initOrder.toList) = "cut".toList :: R) : P.headLifts = [] := by
 unfold Program.headLifts
 rw [h, strip_cut]
 exact ite_self _
theorem liftsFinal_of (P : Program) (R : List (List Char)) (h : behindMainWord (wordsSigns P.initOrder.toList) = "cut".toList :: R) : P.liftsFinal = false := by
 unfold Program.liftsFinal
 rw [headLifts_of P R h, h]
 simp only [n_carried']
 rfl
theorem make_of (P : Program) (R : List (List Char)) (h : behindMainWord (wordsSigns P.initOrder.toList) = "cut".toList :: R) : P.make = some .cut := by
 unfold Program.make
 rw [h]
 simp only [n_gc, n_spec, y_cut]
 rfl
theorem mayEnter_yes : Try.prog.mayEnter = true := by
 obtain ⟨R, h⟩ := main_word
 exact mayEnter_of _ R h laysLater_no bearsReflect_no doorFits_nil
theorem liftsFinal_no : Try.prog.liftsFinal = false := by
 obtain ⟨R, h⟩ := main_word
 exact liftsFinal_of _ R h
theorem make_cut : Try.prog.make = some .cut := by
 obtain ⟨R, h⟩ := main_word
 exact make_of _ R h
def spec_l1In.f (a0 : Int) (a1 : Int) (a2 : Int) : Option (Bool) := if a0 ≥ a1 then (some (decide (a0 ≤ a2))) else (some false)
theorem spec_l1In.calls (a0 : Int) (a1 : Int) (a2 : Int) (r : Bool) (w : World) (h : spec_l1In.f a0 a1 a2 = some r) :
  Calls Try.prog 111 #[.int .i64 a0, .int .i64 a1, .int .i64 a2] w fun e w' => e = .returned (.bool r) ∧ Drawn0 w w' := by
 unfold spec_l1In.f at h
 have H := h
 clear h
 by_cases c4 : a0 ≥ a1
 ·rw [if_pos c4] at H
  have jE : decide (a1 ≤ a0) = true := decide_eq_true c4
  clear c4
  obtain rfl := Option.some.inj H
  repeat clear H
  go_enter Try.func111, Try.ntmps111
  go_wp2
  go_ret
  exact ⟨by first | rfl | (simp; done) | (simp [*]; done), cG⟩
 rw [if_neg c4] at H
 have jE : decide (a1 ≤ a0) = false := decide_eq_false c4
 clear c4
 obtain rfl := Option.some.inj H
 repeat clear H
 go_enter Try.func111, Try.ntmps111
 go_wp2
 go_ret
 exact ⟨by first | rfl | (simp; done) | (simp [*]; done), cG⟩
def spec_l1NameOk.l0 : Nat → ByteArray → Int → Option (Bool)
 | 0, _, _ => none
 | k + 1, b, a => if a < (b.size : Int) then (if 0 ≤ a then (if (bt b a) ≥ 97 then (if (bt b a) ≤ 122 then (spec_l1NameOk.l0 k b (wrap64 (a + 1))) else (if (bt b a) ≥ 48 then (if (bt b a) ≤ 57 then (spec_l1NameOk.l0 k b (wrap64 (a + 1))) else (if ((bt b a) = 45) then (spec_l1NameOk.l0 k b (wrap64 (a + 1))) else (some false))) else (if ((bt b a) = 45) then (spec_l1NameOk.l0 k b (wrap64 (a + 1))) else (some false)))) else (if (bt b a) ≥ 48 then (if (bt b a) ≤ 57 then (spec_l1NameOk.l0 k b (wrap64 (a + 1))) else (if ((bt b a) = 45) then (spec_l1NameOk.l0 k b (wrap64 (a + 1))) else (some false))) else (if ((bt b a) = 45) then (spec_l1NameOk.l0 k b (wrap64 (a + 1))) else (some false)))) else (none)) else (some true)
def spec_l1NameOk.f (k : Nat) (a0 : ByteArray) : Option (Bool) := (spec_l1In.f (a0.size : Int) 1 8).bind fun a => (if a = true then (spec_l1NameOk.l0 k a0 0) else (some false))
theorem spec_l1NameOk.calls (k : Nat) (a0 : ByteArray) (r : Bool) (w : World) (h : spec_l1NameOk.f k a0 = some r) :
  Calls Try.prog 70 #[.string a0] w fun e w' => e = .returned (.bool r) ∧ Drawn0 w w' := by
 unfold spec_l1NameOk.f at h
 have H := h
 clear h
 obtain ⟨eJ, A2, H⟩ := bd H
 refine tC H ?_ ?_ <;> clear H <;> intro c3 H <;> subst c3
 ·have H' := am H
  repeat clear H
  go_enter Try.func70, Try.ntmps70
  go_wp2_with (first | ((with_reducible refine gC 111 ?_); refine cQ (some 7) Try.func111 (spec_l1In.calls (a0.size : Int) 1 8 true _ A2.out) ?_; rintro w' ⟨nd, rfl⟩))
  go_loopg [3] k (fun kq v3 w' => ∃ (dI : Int), v3 = .int .i64 dI ∧ Aside0 (spec_l1NameOk.l0 kq a0 dI = some r) ∧ Aside0 (kq ≤ k) ∧ Drawn0 w w')
  case atStart => exact ⟨(0), aQ, H', ⟨Nat.le_refl _⟩, cG⟩
  clear H'
  try clear c3
  obtain ⟨dI, rfl, HA, HK1, ⟨m1, rfl⟩⟩ := hrel
  cases gk with
  | zero => exact absurd HA.out (by simp [spec_l1NameOk.l0])
  | succ k1 =>
   have H := HA.out
   clear HA
   simp only [spec_l1NameOk.l0] at H
   refine ic H ?_ ?_ <;> clear H <;> intro jE H
   ·obtain ⟨pH, H⟩ := cN H
    by_cases c7 : (bt a0 dI) ≥ 97
    ·rw [if_pos c7] at H
     have AZ : decide (97 ≤ (bt a0 dI)) = true := decide_eq_true c7
     clear c7
     refine ic H ?_ ?_ <;> clear H <;> intro sD H
     ·have H' := am H
      repeat clear H
      obtain ⟨KY, p6, q6⟩ := aB a0 dI
      go_wp2
      go_roundg k1
      case measure => have := HK1.out; omega
      case rel => exact ⟨(wrap64 (dI + 1)), aQ, H', ⟨by have := HK1.out; omega⟩, cG⟩
     ·by_cases c9 : (bt a0 dI) ≥ 48
      ·rw [if_pos c9] at H
       have vQ : decide (48 ≤ (bt a0 dI)) = true := decide_eq_true c9
       clear c9
       refine ic H ?_ ?_ <;> clear H <;> intro n9 H
       ·have H' := am H
        repeat clear H
        obtain ⟨KY, p6, q6⟩ := aB a0 dI
        go_wp2
        go_roundg k1
        case measure => have := HK1.out; omega
        case rel => exact ⟨(wrap64 (dI + 1)), aQ, H', ⟨by have := HK1.out; omega⟩, cG⟩
       ·refine iq H ?_ ?_ <;> clear H <;> intro yR qH YU H
        ·have H' := am H
         repeat clear H
         obtain ⟨KY, p6, q6⟩ := aB a0 dI
         go_wp2
         go_roundg k1
         case measure => have := HK1.out; omega
         case rel => exact ⟨(wrap64 (dI + 1)), aQ, H', ⟨by have := HK1.out; omega⟩, cG⟩
        ·obtain rfl := Option.some.inj H
         repeat clear H
         obtain ⟨KY, p6, q6⟩ := aB a0 dI
         go_wp2
         go_ret
         exact ⟨by first | rfl | (simp; done) | (simp [*]; done), cG⟩
      ·rw [if_neg c9] at H
       have vQ : decide (48 ≤ (bt a0 dI)) = false := decide_eq_false c9
       clear c9
       refine iq H ?_ ?_ <;> clear H <;> intro Mw tD J5 H
       ·have H' := am H
        repeat clear H
        obtain ⟨KY, p6, q6⟩ := aB a0 dI
        go_wp2
        go_roundg k1
        case measure => have := HK1.out; omega
        case rel => exact ⟨(wrap64 (dI + 1)), aQ, H', ⟨by have := HK1.out; omega⟩, cG⟩
       ·obtain rfl := Option.some.inj H
        repeat clear H
        obtain ⟨KY, p6, q6⟩ := aB a0 dI
        go_wp2
        go_ret
        exact ⟨by first | rfl | (simp; done) | (simp [*]; done), cG⟩
    ·rw [if_neg c7] at H
     have AZ : decide (97 ≤ (bt a0 dI)) = false := decide_eq_false c7
     clear c7
     by_cases EN : (bt a0 dI) ≥ 48
     ·rw [if_pos EN] at H
      have zP : decide (48 ≤ (bt a0 dI)) = true := decide_eq_true EN
      clear EN
      refine ic H ?_ ?_ <;> clear H <;> intro DA H
      ·have H' := am H
       repeat clear H
       obtain ⟨KY, p6, q6⟩ := aB a0 dI
       go_wp2
       go_roundg k1
       case measure => have := HK1.out; omega
       case rel => exact ⟨(wrap64 (dI + 1)), aQ, H', ⟨by have := HK1.out; omega⟩, cG⟩
      ·refine iq H ?_ ?_ <;> clear H <;> intro RQ DB Xp H
       ·have H' := am H
        repeat clear H
        obtain ⟨KY, p6, q6⟩ := aB a0 dI
        go_wp2
        go_roundg k1
        case measure => have := HK1.out; omega
        case rel => exact ⟨(wrap64 (dI + 1)), aQ, H', ⟨by have := HK1.out; omega⟩, cG⟩
       ·obtain rfl := Option.some.inj H
        repeat clear H
        obtain ⟨KY, p6, q6⟩ := aB a0 dI
        go_wp2
        go_ret
        exact ⟨by first | rfl | (simp; done) | (simp [*]; done), cG⟩
     ·rw [if_neg EN] at H
      have zP : decide (48 ≤ (bt a0 dI)) = false := decide_eq_false EN
      clear EN
      refine iq H ?_ ?_ <;> clear H <;> intro DC tE J8 H
      ·have H' := am H
       repeat clear H
       obtain ⟨KY, p6, q6⟩ := aB a0 dI
       go_wp2
       go_roundg k1
       case measure => have := HK1.out; omega
       case rel => exact ⟨(wrap64 (dI + 1)), aQ, H', ⟨by have := HK1.out; omega⟩, cG⟩
      ·obtain rfl := Option.some.inj H
       repeat clear H
       obtain ⟨KY, p6, q6⟩ := aB a0 dI
       go_wp2
       go_ret
       exact ⟨by first | rfl | (simp; done) | (simp [*]; done), cG⟩
   ·obtain rfl := Option.some.inj H
    repeat clear H
    go_wp2
    go_ret
    exact ⟨by first | rfl | (simp; done) | (simp [*]; done), cG⟩
 obtain rfl := Option.some.inj H
 repeat clear H
 go_enter Try.func70, Try.ntmps70
 go_wp2_with (first | ((with_reducible refine gC 111 ?_); refine cQ (some 7) Try.func111 (spec_l1In.calls (a0.size : Int) 1 8 false _ A2.out) ?_; rintro w' ⟨nd, rfl⟩))
 go_ret
 exact ⟨by first | rfl | (simp; done) | (simp [*]; done), cG⟩
def spec_l1ThingsOk.l0 : Nat → List ByteArray → Int → Option (Bool)
 | 0, _, _ => none
 | k + 1, b, a => if a < (b.length : Int) then (if 0 ≤ a then ((spec_l1NameOk.f k (rdOf ByteArray.empty b a)).bind fun c => (if c = true then (if a > 0 then (if 0 ≤ (wrap64 (a - 1)) then (if (wrap64 (a - 1)) < (b.length : Int) then (if ((Op.bytesLess ((rdOf ByteArray.empty b (wrap64 (a - 1))).toList) ((rdOf ByteArray.empty b a).toList)) = true) then (spec_l1ThingsOk.l0 k b (wrap64 (a + 1))) else (some false)) else (none)) else (none)) else (spec_l1ThingsOk.l0 k b (wrap64 (a + 1)))) else (some false))) else (none)) else (some true)
def spec_l1ThingsOk.f (k : Nat) (l0 : List ByteArray) : Option (Bool) := if (l0.length : Int) > 8 then (some false) else (spec_l1ThingsOk.l0 k l0 0)
theorem spec_l1ThingsOk.calls (k : Nat) (A0 : Option Addr) (c0 : Nat) (l0 : List ByteArray) (r : Bool) (w : World) (gL : Kd.C Kd.string w A0 l0.length l0) (l7 : l0.length ≤ c0) (h : spec_l1ThingsOk.f k l0 = some r) :
  Calls Try.prog 69 #[.slice A0 l0.length c0] w fun e w' => e = .returned (.bool r) ∧ Drawn0 w w' := by
 obtain ⟨hL, wE⟩ := mZ2 gL l7
 clear gL l7
 unfold spec_l1ThingsOk.f at h
 have H := h
 clear h
 by_cases c2 : (l0.length : Int) > 8
 ·rw [if_pos c2] at H
  have LU : decide (8 < (l0.length : Int)) = true := decide_eq_true c2
  have LV : decide (8 < l0.length) = true := decide_eq_true (by omega)
  clear c2
  obtain rfl := Option.some.inj H
  repeat clear H
  go_enter Try.func69, Try.ntmps69
  go_wp2
  repeat (go_quiet (fail); try go_wp2)
  go_ret
  exact ⟨by first | rfl | (simp; done) | (simp [*]; done), cG⟩
 rw [if_neg c2] at H
 have LU : decide (8 < (l0.length : Int)) = false := decide_eq_false c2
 have LV : decide (8 < l0.length) = false := decide_eq_false (by omega)
 clear c2
 have H' := am H
 repeat clear H
 go_enter Try.func69, Try.ntmps69
 go_wp2
 repeat (go_quiet (fail); try go_wp2)
 go_loopg [3] k (fun kq v3 w' => ∃ (dI : Int), v3 = .int .i64 dI ∧ Aside0 (spec_l1ThingsOk.l0 kq l0 dI = some r) ∧ Aside0 (kq ≤ k) ∧ Drawn0 w w')
 case atStart => exact ⟨(0), aQ, H', ⟨Nat.le_refl _⟩, cG⟩
 clear H'
 try clear c2
 try clear LU
 try clear LV
 obtain ⟨dI, rfl, HA, HK1, ⟨m1, rfl⟩⟩ := hrel
 cases gk with
 | zero => exact absurd HA.out (by simp [spec_l1ThingsOk.l0])
 | succ k1 =>
  have H := HA.out
  clear HA
  simp only [spec_l1ThingsOk.l0] at H
  refine ic H ?_ ?_ <;> clear H <;> intro pG H
  obtain ⟨jE, H⟩ := cN H
  obtain ⟨eB, A5, H⟩ := bd H
  refine tC H ?_ ?_ <;> clear H <;> intro c6 H <;> subst c6
  by_cases c7 : dI > 0
  rw [if_pos c7] at H
  have AZ : decide (0 < dI) = true := decide_eq_true c7
  clear c7
  obtain ⟨ji8, hji8⟩ : ∃ j_ : Int, (wrap64 (dI - 1)) = j_ := ⟨_, rfl⟩
  replace H : (if 0 ≤ (ji8) then (if (ji8) < (l0.length : Int) then (if ((Op.bytesLess ((rdOf ByteArray.empty l0 (ji8)).toList) ((rdOf ByteArray.empty l0 dI).toList)) = true) then (spec_l1ThingsOk.l0 k1 l0 (wrap64 (dI + 1))) else (some false)) else (none)) else (none)) = some r := by first | (rw [hji8] at H; exact H) | (simp only [hji8] at H ⊢; exact H)
  (try rw [hji8] at A5)
  have hji8w : (IntKind.i64.wrap (dI - 1)) = ji8 := (i64_w _).trans hji8
  obtain ⟨vQ, H⟩ := cN H
  obtain ⟨n9, H⟩ := cN H
  refine tC H ?_ ?_ <;> clear H <;> intro qH H
  have H' := am H
  repeat clear H
  obtain ⟨dS, eY, e0, kZ, l5⟩ := aS hL b0 dI
  cases eY
  have Mf := trivial
  rotate_left
  obtain rfl := Option.some.inj H
  repeat clear H
  obtain ⟨dS, eY, e0, kZ, l5⟩ := aS hL b0 dI
  cases eY
  have Mf := trivial
  rotate_left
  rw [if_neg c7] at H
  have AZ : decide (0 < dI) = false := decide_eq_false c7
  clear c7
  have H' := am H
  repeat clear H
  obtain ⟨dS, eY, e0, kZ, l5⟩ := aS hL b0 dI
  cases eY
  have Ty := trivial
  rotate_left
  obtain rfl := Option.some.inj H
  repeat clear H
  obtain ⟨dS, eY, e0, kZ, l5⟩ := aS hL b0 dI
  cases eY
  have Tz := trivial
  rotate_left
  obtain rfl := Option.some.inj H
  repeat clear H
  rotate_left
  all_goals
   go_wp2_with (first | (go_at_call 70; revert Mf; intro Mf; refine cM (spec_l1NameOk.calls k1 (rdOf ByteArray.empty l0 dI) true _ A5.out) ?_; rintro w' ⟨nd, rfl⟩; (try exact dR); obtain ⟨fC, lF, g9, nR, nW⟩ := aS hL b0 (ji8); obtain rfl : dS = fC := (by injection lF); obtain ⟨eG, jW, hU, sY, t0⟩ := aS hL b0 dI; obtain rfl : dS = eG := (by injection jW)) | (go_at_call 70; revert Ty; intro Ty; refine cM (spec_l1NameOk.calls k1 (rdOf ByteArray.empty l0 dI) true _ A5.out) ?_; rintro w' ⟨nd, rfl⟩; (try exact dR)) | (go_at_call 70; revert Tz; intro Tz; refine cM (spec_l1NameOk.calls k1 (rdOf ByteArray.empty l0 dI) false _ A5.out) ?_; rintro w' ⟨nd, rfl⟩; (try exact dR)))
  ·repeat (go_quiet (first | (go_at_call 70; refine cM (spec_l1NameOk.calls k1 (rdOf ByteArray.empty l0 dI) true _ A5.out) ?_; rintro w' ⟨nd, rfl⟩; (try exact dR); obtain ⟨fC, lF, g9, nR, nW⟩ := aS hL b0 (ji8); obtain rfl : dS = fC := (by injection lF); obtain ⟨eG, jW, hU, sY, t0⟩ := aS hL b0 dI; obtain rfl : dS = eG := (by injection jW))); try go_wp2_with (first | (go_at_call 70; refine cM (spec_l1NameOk.calls k1 (rdOf ByteArray.empty l0 dI) true _ A5.out) ?_; rintro w' ⟨nd, rfl⟩; (try exact dR); obtain ⟨fC, lF, g9, nR, nW⟩ := aS hL b0 (ji8); obtain rfl : dS = fC := (by injection lF); obtain ⟨eG, jW, hU, sY, t0⟩ := aS hL b0 dI; obtain rfl : dS = eG := (by injection jW))))
   go_roundg k1
   case measure => have := HK1.out; omega
   case rel => exact ⟨(wrap64 (dI + 1)), aQ, H', ⟨by have := HK1.out; omega⟩, cG⟩
  ·repeat (go_quiet (first | (go_at_call 70; refine cM (spec_l1NameOk.calls k1 (rdOf ByteArray.empty l0 dI) true _ A5.out) ?_; rintro w' ⟨nd, rfl⟩; (try exact dR); obtain ⟨fC, lF, g9, nR, nW⟩ := aS hL b0 (ji8); obtain rfl : dS = fC := (by injection lF); obtain ⟨eG, jW, hU, sY, t0⟩ := aS hL b0 dI; obtain rfl : dS = eG := (by injection jW))); try go_wp2_with (first | (go_at_call 70; refine cM (spec_l1NameOk.calls k1 (rdOf ByteArray.empty l0 dI) true _ A5.out) ?_; rintro w' ⟨nd, rfl⟩; (try exact dR); obtain ⟨fC, lF, g9, nR, nW⟩ := aS hL b0 (ji8); obtain rfl : dS = fC := (by injection lF); obtain ⟨eG, jW, hU, sY, t0⟩ := aS hL b0 dI; obtain rfl : dS = eG := (by injection jW))))
   go_ret
   exact ⟨by first | rfl | (simp; done) | (simp only [← hji8] <;> (first | rfl | simp)) | (simp [*]; done), cG⟩
  ·repeat (go_quiet (first | (go_at_call 70; refine cM (spec_l1NameOk.calls k1 (rdOf ByteArray.empty l0 dI) true _ A5.out) ?_; rintro w' ⟨nd, rfl⟩; (try exact dR))); try go_wp2_with (first | (go_at_call 70; refine cM (spec_l1NameOk.calls k1 (rdOf ByteArray.empty l0 dI) true _ A5.out) ?_; rintro w' ⟨nd, rfl⟩; (try exact dR))))
   go_roundg k1
   case measure => have := HK1.out; omega
   case rel => exact ⟨(wrap64 (dI + 1)), aQ, H', ⟨by have := HK1.out; omega⟩, cG⟩
  ·repeat (go_quiet (first | (go_at_call 70; refine cM (spec_l1NameOk.calls k1 (rdOf ByteArray.empty l0 dI) false _ A5.out) ?_; rintro w' ⟨nd, rfl⟩; (try exact dR))); try go_wp2_with (first | (go_at_call 70; refine cM (spec_l1NameOk.calls k1 (rdOf ByteArray.empty l0 dI) false _ A5.out) ?_; rintro w' ⟨nd, rfl⟩; (try exact dR))))
   go_ret
   exact ⟨by first | rfl | (simp; done) | (simp [*]; done), cG⟩
  ·repeat (go_quiet (fail); try go_wp2)
   go_ret
   exact ⟨by first | rfl | (simp; done) | (simp [*]; done), cG⟩
def spec_l1Has.l0 : Nat → List ByteArray → ByteArray → Int → Option (Bool)
 | 0, _, _, _ => none
 | k + 1, b, c, a => if a < (b.length : Int) then (if 0 ≤ a then (if (rdOf ByteArray.empty b a).toList = c.toList then (some true) else (spec_l1Has.l0 k b c (wrap64 (a + 1)))) else (none)) else (some false)
def spec_l1Has.f (k : Nat) (l0 : List ByteArray) (a1 : ByteArray) : Option (Bool) := spec_l1Has.l0 k l0 a1 0
theorem spec_l1Has.calls (k : Nat) (A0 : Option Addr) (c0 : Nat) (l0 : List ByteArray) (a1 : ByteArray) (r : Bool) (w : World) (gL : Kd.C Kd.string w A0 l0.length l0) (l7 : l0.length ≤ c0) (h : spec_l1Has.f k l0 a1 = some r) :
  Calls Try.prog 80 #[.slice A0 l0.length c0, .string a1] w fun e w' => e = .returned (.bool r) ∧ Drawn0 w w' := by
 obtain ⟨hL, wE⟩ := mZ2 gL l7
 clear gL l7
 unfold spec_l1Has.f at h
 have H := h
 clear h
 have H' := am H
 repeat clear H
 go_enter Try.func80, Try.ntmps80
 go_wp2
 go_loopg [5] k (fun kq v5 w' => ∃ (aW : Int), v5 = .int .i64 aW ∧ Aside0 (spec_l1Has.l0 kq l0 a1 aW = some r) ∧ Aside0 (kq ≤ k) ∧ Drawn0 w w')
 case atStart => exact ⟨(0), aQ, H', ⟨Nat.le_refl _⟩, cG⟩
 clear H'
 obtain ⟨aW, rfl, HA, HK1, ⟨m1, rfl⟩⟩ := hrel
 cases gk with
 | zero => exact absurd HA.out (by simp [spec_l1Has.l0])
 | succ k1 =>
  have H := HA.out
  clear HA
  simp only [spec_l1Has.l0] at H
  refine ic H ?_ ?_ <;> clear H <;> intro pG H
  ·obtain ⟨jE, H⟩ := cN H
   refine iq H ?_ ?_ <;> clear H <;> intro c5 pH Nl H
   ·obtain rfl := Option.some.inj H
    repeat clear H
    obtain ⟨dS, eY, e0, kZ, l5⟩ := aS hL b0 aW
    cases eY
    go_wp2
    go_ret
    exact ⟨by first | rfl | (simp; done) | (simp [*]; done), cG⟩
   ·have H' := am H
    repeat clear H
    obtain ⟨dS, eY, e0, kZ, l5⟩ := aS hL b0 aW
    cases eY
    go_wp2
    go_roundg k1
    case measure => have := HK1.out; omega
    case rel => exact ⟨(wrap64 (aW + 1)), aQ, H', ⟨by have := HK1.out; omega⟩, cG⟩
  ·obtain rfl := Option.some.inj H
   repeat clear H
   go_wp2
   go_ret
   exact ⟨by first | rfl | (simp; done) | (simp [*]; done), cG⟩
def spec_l1NamesOk.l0 : Nat → List ByteArray → List ByteArray → Int → Option (Bool)
 | 0, _, _, _ => none
 | k + 1, b, c, a => if a < (b.length : Int) then (if 0 ≤ a then ((spec_l1Has.f k c (rdOf ByteArray.empty b a)).bind fun d => (if d = true then (if a > 0 then (if 0 ≤ (wrap64 (a - 1)) then (if (wrap64 (a - 1)) < (b.length : Int) then (if ((Op.bytesLess ((rdOf ByteArray.empty b (wrap64 (a - 1))).toList) ((rdOf ByteArray.empty b a).toList)) = true) then (spec_l1NamesOk.l0 k b c (wrap64 (a + 1))) else (some false)) else (none)) else (none)) else (spec_l1NamesOk.l0 k b c (wrap64 (a + 1)))) else (some false))) else (none)) else (some true)
def spec_l1NamesOk.f (k : Nat) (l0 : List ByteArray) (l1 : List ByteArray) : Option (Bool) := spec_l1NamesOk.l0 k l0 l1 0
theorem spec_l1NamesOk.calls (k : Nat) (A0 : Option Addr) (c0 : Nat) (l0 : List ByteArray) (A1 : Option Addr) (c1 : Nat) (l1 : List ByteArray) (r : Bool) (w : World) (gL : Kd.C Kd.string w A0 l0.length l0) (l7 : l0.length ≤ c0) (qQ : Kd.C Kd.string w A1 l1.length l1) (sW : l1.length ≤ c1) (h : spec_l1NamesOk.f k l0 l1 = some r) :
  Calls Try.prog 71 #[.slice A0 l0.length c0, .slice A1 l1.length c1] w fun e w' => e = .returned (.bool r) ∧ Drawn0 w w' := by
 obtain ⟨hL, wE⟩ := mZ2 gL l7
 obtain ⟨qX, sS⟩ := mZ2 qQ sW
 clear gL l7 qQ sW
 unfold spec_l1NamesOk.f at h
 have H := h
 clear h
 have H' := am H
 repeat clear H
 go_enter Try.func71, Try.ntmps71
 go_wp2
 repeat (go_quiet (fail); try go_wp2)
 go_loopg [5] k (fun kq v5 w' => ∃ (aW : Int), v5 = .int .i64 aW ∧ Aside0 (spec_l1NamesOk.l0 kq l0 l1 aW = some r) ∧ Aside0 (kq ≤ k) ∧ Drawn0 w w')
 case atStart => exact ⟨(0), aQ, H', ⟨Nat.le_refl _⟩, cG⟩
 clear H'
 try clear c1
 obtain ⟨aW, rfl, HA, HK1, ⟨m1, rfl⟩⟩ := hrel
 cases gk with
 | zero => exact absurd HA.out (by simp [spec_l1NamesOk.l0])
 | succ k1 =>
  have H := HA.out
  clear HA
  simp only [spec_l1NamesOk.l0] at H
  refine ic H ?_ ?_ <;> clear H <;> intro pG H
  obtain ⟨jE, H⟩ := cN H
  obtain ⟨eB, A5, H⟩ := bd H
  refine tC H ?_ ?_ <;> clear H <;> intro c6 H <;> subst c6
  by_cases c7 : aW > 0
  rw [if_pos c7] at H
  have AZ : decide (0 < aW) = true := decide_eq_true c7
  clear c7
  obtain ⟨ji8, hji8⟩ : ∃ j_ : Int, (wrap64 (aW - 1)) = j_ := ⟨_, rfl⟩
  replace H : (if 0 ≤ (ji8) then (if (ji8) < (l0.length : Int) then (if ((Op.bytesLess ((rdOf ByteArray.empty l0 (ji8)).toList) ((rdOf ByteArray.empty l0 aW).toList)) = true) then (spec_l1NamesOk.l0 k1 l0 l1 (wrap64 (aW + 1))) else (some false)) else (none)) else (none)) = some r := by first | (rw [hji8] at H; exact H) | (simp only [hji8] at H ⊢; exact H)
  (try rw [hji8] at A5)
  have hji8w : (IntKind.i64.wrap (aW - 1)) = ji8 := (i64_w _).trans hji8
  obtain ⟨vQ, H⟩ := cN H
  obtain ⟨n9, H⟩ := cN H
  refine tC H ?_ ?_ <;> clear H <;> intro qH H
  have H' := am H
  repeat clear H
  obtain ⟨dS, eY, e0, kZ, l5⟩ := aS hL b0 aW
  cases eY
  have Mg := trivial
  rotate_left
  obtain rfl := Option.some.inj H
  repeat clear H
  obtain ⟨dS, eY, e0, kZ, l5⟩ := aS hL b0 aW
  cases eY
  have Mg := trivial
  rotate_left
  rw [if_neg c7] at H
  have AZ : decide (0 < aW) = false := decide_eq_false c7
  clear c7
  have H' := am H
  repeat clear H
  obtain ⟨dS, eY, e0, kZ, l5⟩ := aS hL b0 aW
  cases eY
  have Ua := trivial
  rotate_left
  obtain rfl := Option.some.inj H
  repeat clear H
  obtain ⟨dS, eY, e0, kZ, l5⟩ := aS hL b0 aW
  cases eY
  have Ub := trivial
  rotate_left
  obtain rfl := Option.some.inj H
  repeat clear H
  rotate_left
  all_goals
   go_wp2_with (first | (go_at_call 80; revert Mg; intro Mg; refine cM (spec_l1Has.calls k1 _ _ l1 (rdOf ByteArray.empty l0 aW) true _ (pC qX.1) sS.1 A5.out) ?_; rintro w' ⟨nd, rfl⟩; (try exact dR); obtain ⟨fC, lF, g9, nR, nW⟩ := aS hL b0 (ji8); obtain rfl : dS = fC := (by injection lF); obtain ⟨eG, jW, hU, sY, t0⟩ := aS hL b0 aW; obtain rfl : dS = eG := (by injection jW)) | (go_at_call 80; revert Ua; intro Ua; refine cM (spec_l1Has.calls k1 _ _ l1 (rdOf ByteArray.empty l0 aW) true _ (pC qX.1) sS.1 A5.out) ?_; rintro w' ⟨nd, rfl⟩; (try exact dR)) | (go_at_call 80; revert Ub; intro Ub; refine cM (spec_l1Has.calls k1 _ _ l1 (rdOf ByteArray.empty l0 aW) false _ (pC qX.1) sS.1 A5.out) ?_; rintro w' ⟨nd, rfl⟩; (try exact dR)))
  ·repeat (go_quiet (first | (go_at_call 80; refine cM (spec_l1Has.calls k1 _ _ l1 (rdOf ByteArray.empty l0 aW) true _ (pC qX.1) sS.1 A5.out) ?_; rintro w' ⟨nd, rfl⟩; (try exact dR); obtain ⟨fC, lF, g9, nR, nW⟩ := aS hL b0 (ji8); obtain rfl : dS = fC := (by injection lF); obtain ⟨eG, jW, hU, sY, t0⟩ := aS hL b0 aW; obtain rfl : dS = eG := (by injection jW))); try go_wp2_with (first | (go_at_call 80; refine cM (spec_l1Has.calls k1 _ _ l1 (rdOf ByteArray.empty l0 aW) true _ (pC qX.1) sS.1 A5.out) ?_; rintro w' ⟨nd, rfl⟩; (try exact dR); obtain ⟨fC, lF, g9, nR, nW⟩ := aS hL b0 (ji8); obtain rfl : dS = fC := (by injection lF); obtain ⟨eG, jW, hU, sY, t0⟩ := aS hL b0 aW; obtain rfl : dS = eG := (by injection jW))))
   go_roundg k1
   case measure => have := HK1.out; omega
   case rel => exact ⟨(wrap64 (aW + 1)), aQ, H', ⟨by have := HK1.out; omega⟩, cG⟩
  ·repeat (go_quiet (first | (go_at_call 80; refine cM (spec_l1Has.calls k1 _ _ l1 (rdOf ByteArray.empty l0 aW) true _ (pC qX.1) sS.1 A5.out) ?_; rintro w' ⟨nd, rfl⟩; (try exact dR); obtain ⟨fC, lF, g9, nR, nW⟩ := aS hL b0 (ji8); obtain rfl : dS = fC := (by injection lF); obtain ⟨eG, jW, hU, sY, t0⟩ := aS hL b0 aW; obtain rfl : dS = eG := (by injection jW))); try go_wp2_with (first | (go_at_call 80; refine cM (spec_l1Has.calls k1 _ _ l1 (rdOf ByteArray.empty l0 aW) true _ (pC qX.1) sS.1 A5.out) ?_; rintro w' ⟨nd, rfl⟩; (try exact dR); obtain ⟨fC, lF, g9, nR, nW⟩ := aS hL b0 (ji8); obtain rfl : dS = fC := (by injection lF); obtain ⟨eG, jW, hU, sY, t0⟩ := aS hL b0 aW; obtain rfl : dS = eG := (by injection jW))))
   go_ret
   exact ⟨by first | rfl | (simp; done) | (simp only [← hji8] <;> (first | rfl | simp)) | (simp [*]; done), cG⟩
  ·repeat (go_quiet (first | (go_at_call 80; refine cM (spec_l1Has.calls k1 _ _ l1 (rdOf ByteArray.empty l0 aW) true _ (pC qX.1) sS.1 A5.out) ?_; rintro w' ⟨nd, rfl⟩; (try exact dR))); try go_wp2_with (first | (go_at_call 80; refine cM (spec_l1Has.calls k1 _ _ l1 (rdOf ByteArray.empty l0 aW) true _ (pC qX.1) sS.1 A5.out) ?_; rintro w' ⟨nd, rfl⟩; (try exact dR))))
   go_roundg k1
   case measure => have := HK1.out; omega
   case rel => exact ⟨(wrap64 (aW + 1)), aQ, H', ⟨by have := HK1.out; omega⟩, cG⟩
  ·repeat (go_quiet (first | (go_at_call 80; refine cM (spec_l1Has.calls k1 _ _ l1 (rdOf ByteArray.empty l0 aW) false _ (pC qX.1) sS.1 A5.out) ?_; rintro w' ⟨nd, rfl⟩; (try exact dR))); try go_wp2_with (first | (go_at_call 80; refine cM (spec_l1Has.calls k1 _ _ l1 (rdOf ByteArray.empty l0 aW) false _ (pC qX.1) sS.1 A5.out) ?_; rintro w' ⟨nd, rfl⟩; (try exact dR))))
   go_ret
   exact ⟨by first | rfl | (simp; done) | (simp [*]; done), cG⟩
  ·repeat (go_quiet (fail); try go_wp2)
   go_ret
   exact ⟨by first | rfl | (simp; done) | (simp [*]; done), cG⟩
def spec_l1Share.l0 : Nat → List ByteArray → List ByteArray → Int → Option (Bool)
 | 0, _, _, _ => none
 | k + 1, b, c, a => if a < (b.length : Int) then (if 0 ≤ a then ((spec_l1Has.f k c (rdOf ByteArray.empty b a)).bind fun d => (if d = true then (some true) else (spec_l1Share.l0 k b c (wrap64 (a + 1))))) else (none)) else (some false)
def spec_l1Share.f (k : Nat) (l0 : List ByteArray) (l1 : List ByteArray) : Option (Bool) := spec_l1Share.l0 k l0 l1 0
theorem spec_l1Share.calls (k : Nat) (A0 : Option Addr) (c0 : Nat) (l0 : List ByteArray) (A1 : Option Addr) (c1 : Nat) (l1 : List ByteArray) (r : Bool) (w : World) (gL : Kd.C Kd.string w A0 l0.length l0) (l7 : l0.length ≤ c0) (qQ : Kd.C Kd.string w A1 l1.length l1) (sW : l1.length ≤ c1) (h : spec_l1Share.f k l0 l1 = some r) :
  Calls Try.prog 72 #[.slice A0 l0.length c0, .slice A1 l1.length c1] w fun e w' => e = .returned (.bool r) ∧ Drawn0 w w' := by
 obtain ⟨hL, wE⟩ := mZ2 gL l7
 obtain ⟨qX, sS⟩ := mZ2 qQ sW
 clear gL l7 qQ sW
 unfold spec_l1Share.f at h
 have H := h
 clear h
 have H' := am H
 repeat clear H
 go_enter Try.func72, Try.ntmps72
 go_wp2
 go_loopg [5] k (fun kq v5 w' => ∃ (aW : Int), v5 = .int .i64 aW ∧ Aside0 (spec_l1Share.l0 kq l0 l1 aW = some r) ∧ Aside0 (kq ≤ k) ∧ Drawn0 w w')
 case atStart => exact ⟨(0), aQ, H', ⟨Nat.le_refl _⟩, cG⟩
 clear H'
 try clear c1
 obtain ⟨aW, rfl, HA, HK1, ⟨m1, rfl⟩⟩ := hrel
 cases gk with
 | zero => exact absurd HA.out (by simp [spec_l1Share.l0])
 | succ k1 =>
  have H := HA.out
  clear HA
  simp only [spec_l1Share.l0] at H
  refine ic H ?_ ?_ <;> clear H <;> intro pG H
  ·obtain ⟨jE, H⟩ := cN H
   obtain ⟨eB, A5, H⟩ := bd H
   refine tC H ?_ ?_ <;> clear H <;> intro c6 H <;> subst c6
   ·obtain rfl := Option.some.inj H
    repeat clear H
    obtain ⟨dS, eY, e0, kZ, l5⟩ := aS hL b0 aW
    cases eY
    go_wp2_with (first | ((with_reducible refine gC 80 ?_); refine cQ (some 17) Try.func80 (spec_l1Has.calls k1 _ _ l1 (rdOf ByteArray.empty l0 aW) true _ (pC qX.1) sS.1 A5.out) ?_; rintro w' ⟨nd, rfl⟩))
    go_ret
    exact ⟨by first | rfl | (simp; done) | (simp [*]; done), cG⟩
   ·have H' := am H
    repeat clear H
    obtain ⟨dS, eY, e0, kZ, l5⟩ := aS hL b0 aW
    cases eY
    go_wp2_with (first | ((with_reducible refine gC 80 ?_); refine cQ (some 17) Try.func80 (spec_l1Has.calls k1 _ _ l1 (rdOf ByteArray.empty l0 aW) false _ (pC qX.1) sS.1 A5.out) ?_; rintro w' ⟨nd, rfl⟩))
    go_roundg k1
    case measure => have := HK1.out; omega
    case rel => exact ⟨(wrap64 (aW + 1)), aQ, H', ⟨by have := HK1.out; omega⟩, cG⟩
  ·obtain rfl := Option.some.inj H
   repeat clear H
   go_wp2
   go_ret
   exact ⟨by first | rfl | (simp; done) | (simp [*]; done), cG⟩
mutual
def spec_ShareBookOk.j0 : Nat → Bool → List ByteArray → List (S56) → Option (Bool)
 | 0, _, _, _ => none
 | k + 1, a, b, c => if a = true then (some false) else (spec_ShareBookOk.l0 k 0 b c)
def spec_ShareBookOk.l0 : Nat → Int → List ByteArray → List (S56) → Option (Bool)
 | 0, _, _, _ => none
 | k + 1, a, c, b => if a < (b.length : Int) then (if 0 ≤ a then ((spec_l1NameOk.f k ((rd_T56 b a).f0)).bind fun d => (if d = true then (if a > 0 then (if 0 ≤ (wrap64 (a - 1)) then (if (wrap64 (a - 1)) < (b.length : Int) then (if ((Op.bytesLess (((rd_T56 b (wrap64 (a - 1))).f0).toList) (((rd_T56 b a).f0).toList)) = true) then ((spec_l1NamesOk.f k ((rd_T56 b a).f2) c).bind fun e => (if e = true then ((spec_l1NamesOk.f k ((rd_T56 b a).f1) ((rd_T56 b a).f2)).bind fun g => (spec_ShareBookOk.j2 k a (!g) c b ((rd_T56 b a).f0) ((rd_T56 b a).f1) ((rd_T56 b a).f2))) else (spec_ShareBookOk.j2 k a true c b ((rd_T56 b a).f0) ((rd_T56 b a).f1) ((rd_T56 b a).f2)))) else (spec_ShareBookOk.j2 k a true c b ((rd_T56 b a).f0) ((rd_T56 b a).f1) ((rd_T56 b a).f2))) else (none)) else (none)) else ((spec_l1NamesOk.f k ((rd_T56 b a).f2) c).bind fun h => (if h = true then ((spec_l1NamesOk.f k ((rd_T56 b a).f1) ((rd_T56 b a).f2)).bind fun i => (spec_ShareBookOk.j2 k a (!i) c b ((rd_T56 b a).f0) ((rd_T56 b a).f1) ((rd_T56 b a).f2))) else (spec_ShareBookOk.j2 k a true c b ((rd_T56 b a).f0) ((rd_T56 b a).f1) ((rd_T56 b a).f2))))) else (spec_ShareBookOk.j2 k a true c b ((rd_T56 b a).f0) ((rd_T56 b a).f1) ((rd_T56 b a).f2)))) else (none)) else (some true)
def spec_ShareBookOk.j2 : Nat → Int → Bool → List ByteArray → List (S56) → ByteArray → List ByteArray → List ByteArray → Option (Bool)
 | 0, _, _, _, _, _, _, _ => none
 | k + 1, a, b, c, d, e, f, g => if b = true then (some false) else (spec_ShareBookOk.l1 k a 0 c d e f g)
def spec_ShareBookOk.l1 : Nat → Int → Int → List ByteArray → List (S56) → ByteArray → List ByteArray → List ByteArray → Option (Bool)
 | 0, _, _, _, _, _, _, _ => none
 | k + 1, c, a, d, b, g, e, h => if a < c then (if 0 ≤ a then (if a < (b.length : Int) then ((spec_l1Share.f k e ((rd_T56 b a).f1)).bind fun i => (if i = true then (some false) else (spec_ShareBookOk.l1 k c (wrap64 (a + 1)) d b g e h))) else (none)) else (none)) else (spec_ShareBookOk.l0 k (wrap64 (c + 1)) d b)
end
def spec_ShareBookOk.f (k : Nat) (a7 : List ByteArray) (a4 : List (S56)) : Option (Bool) := (spec_l1ThingsOk.f k a7).bind fun a => (if a = true then (spec_ShareBookOk.j0 k (decide ((a4.length : Int) > 5)) a7 a4) else (spec_ShareBookOk.j0 k true a7 a4))
def spec_ShareBookOk.T7 : Bool × List (List Nat × List Nat) := (true, [([], []), ([0], [0]), ([1], [1]), ([2], [2]), ([3, 2], [3]), ([4], [4]), ([5, 4], [4, 5]), ([6, 4, 4], [4, 6]), ([7], [7]), ([8, 7], [7, 8]), ([7], [7]), ([10, 7], [7, 10]), ([9, 11, 7], [7, 9, 11]), ([12, 7], [7, 12]), ([13, 7], [7, 13]), ([7], [7]), ([15, 7], [7, 15]), ([14, 16, 7], [7, 14, 16]), ([7, 17, 4], [4, 7, 17]), ([4, 18], [4, 18]), ([19, 7], [19]), ([20], [20]), ([21, 20], [20, 21]), ([20], [20]), ([23, 20], [20, 23]), ([22, 24, 20, 20], [20, 22, 24]), ([25, 20], [20, 25]), ([20, 26], [20, 26]), ([27, 25], [27]), ([28], [28]), ([29, 28], [28, 29]), ([28], [28]), ([31, 28], [28, 31]), ([30, 32, 28, 28], [28, 30, 32]), ([33, 28], [28, 33]), ([28, 34], [28, 34])])
def spec_ShareBookOk.B7 : List Nat := [0, 1, 3, 7, 15, 31, 63, 127, 255, 511, 255, 1279, 4095, 8191, 16383, 255, 33023, 131071, 262143, 524287, 1048575, 2097151, 4194303, 2097151, 10485759, 33554431, 67108863, 134217727, 268435455, 536870911, 1073741823, 536870911, 2684354559, 8589934591, 17179869183, 34359738367]
theorem spec_ShareBookOk.tab7 : rtab .any (opsOf Try.f22 7) = spec_ShareBookOk.T7 := by kernel_rfl
theorem spec_ShareBookOk.bits7 : waitsOk spec_ShareBookOk.T7.2 spec_ShareBookOk.B7 = true := by kernel_rfl
def spec_ShareBookOk.T12 : Bool × List (List Nat × List Nat) := (true, [([], []), ([0], [0]), ([], []), ([2], [2]), ([], []), ([3, 4], [3, 4]), ([5], [5]), ([6], [6]), ([1, 7], [1, 7])])
def spec_ShareBookOk.B12 : List Nat := [0, 1, 0, 4, 0, 28, 60, 124, 255]
theorem spec_ShareBookOk.tab12 : rtab .any (opsOf Try.f22 12) = spec_ShareBookOk.T12 := by kernel_rfl
theorem spec_ShareBookOk.bits12 : waitsOk spec_ShareBookOk.T12.2 spec_ShareBookOk.B12 = true := by kernel_rfl
theorem spec_ShareBookOk.calls (k : Nat) (bG : Option Addr) (bH : Nat) (a7 : List ByteArray) (bL : Option Addr) (bD : Nat) (a4 : List (S56)) (r : Bool) (w : World) (cZ : Kd.C Kd.string w bG a7.length a7) (cX : a7.length ≤ bH) (cU : Kd.C k56 w bL a4.length a4) (cY : a4.length ≤ bD) (h : spec_ShareBookOk.f k a7 a4 = some r) :
  Calls Try.prog 22 #[.agg #[.slice bG a7.length bH, .slice bL a4.length bD]] w fun e w' => e = .returned (.bool r) ∧ Below w.heap.size w w' := by
 have hu31 := Try.underlying31
 have hu56 := Try.underlying56
 obtain ⟨bC, bA⟩ := mZ2 cZ cX
 obtain ⟨aK, bM⟩ := mZ2 cU cY
 clear cZ cX cU cY
 have HB := am (Below.refl w.heap.size w)
 unfold spec_ShareBookOk.f at h
 have H := h
 clear h
 have oL := am H
 clear H
 go_enter Try.func22, Try.ntmps22
 go_upto_region 1 with (first | ((with_reducible refine gD 1 ?_); (try (refine gate_guard (by rfl) ?_; dsimp only)); refine bX 1 #[.slice bG a7.length bH, .slice bL a4.length bD] 31 ?_; intro a6 hg w3 hbox hb; have a3 := am hbox; have bR := am (hJ : w.heap.size ≤ a6); have cJ := bR; replace HB := bS cI hb; clear hb hbox hg))
 (try simp only [Act.put, List.setIfInBounds_toArray, List.set_cons_zero, List.set_cons_succ])
 go_cut [15] (fun pa wc => ∃ (kq : Nat) (KK : Bool), pa = .bool KK ∧ Aside0 (spec_ShareBookOk.j0 kq KK a7 a4 = some r) ∧ Aside0 (kq ≤ k) ∧ Aside0 (wc.heap[a6]? = some (.cells #[(.slice bG a7.length bH), (.slice bL a4.length bD)] 31 (0, 0))) ∧ Aside0 (Below w.heap.size w wc))
 case first =>
  have H := oL.1
  clear oL
  obtain ⟨eB, A4, H⟩ := bd H
  refine tC H ?_ ?_ <;> clear H <;> intro c5 H <;> subst c5
  ·have H' := am H
   repeat clear H
   have Z6 := cz2 a3
   go_wp2_with (first | ((with_reducible refine gC 69 ?_); refine cQ (some 8) Try.func69 (spec_l1ThingsOk.calls k _ _ a7 true _ (pB bC) bA.1 A4.out) ?_; rintro w' ⟨nd, rfl⟩))
   go_meet
   exact ⟨_, (decide ((a4.length : Int) > 5)), aQ, H', ⟨by first | omega | exact Nat.le_refl _⟩, ⟨rB a3.1⟩, ⟨aY⟩⟩
  have H' := am H
  repeat clear H
  have Z7 := cz2 a3
  go_wp2_with (first | ((with_reducible refine gC 69 ?_); refine cQ (some 8) Try.func69 (spec_l1ThingsOk.calls k _ _ a7 false _ (pB bC) bA.1 A4.out) ?_; rintro w' ⟨nd, rfl⟩))
  go_meet
  exact ⟨_, (true), aQ, H', ⟨by first | omega | exact Nat.le_refl _⟩, ⟨rB a3.1⟩, ⟨aY⟩⟩
 clear oL
 obtain ⟨kq, KK, rfl, HA, HJ1, a3, HB⟩ := hcut
 cases kq with
 | zero => exact absurd HA.out (by simp [spec_ShareBookOk.j0])
 | succ kj1 =>
  have H := HA.out
  clear HA
  simp only [spec_ShareBookOk.j0] at H
  refine tC H ?_ ?_ <;> clear H <;> intro c8 H <;> subst c8
  ·obtain rfl := Option.some.inj H
   repeat clear H
   go_wp2
   go_ret
   exact ⟨eR, aY⟩
  ·have H' := am H
   repeat clear H
   go_wp2
   go_loopg [3] kj1 (fun kq v3 w' => ∃ (d3 : Int), v3 = .int .i64 d3 ∧ Aside0 (spec_ShareBookOk.l0 kq d3 a7 a4 = some r) ∧ Aside0 (kq ≤ kj1) ∧ Aside0 (w'.heap[a6]? = some (.cells #[(.slice bG a7.length bH), (.slice bL a4.length bD)] 31 (0, 0))) ∧ Aside0 (Below w.heap.size w w'))
   case atStart => exact ⟨(0), aQ, H', ⟨Nat.le_refl _⟩, ⟨rB a3.1⟩, ⟨aY⟩⟩
   case round =>
    clear H'
    try clear c8
    obtain ⟨d3, rfl, HA, HK2, a3, HB⟩ := hrel
    cases gk with
    | zero => exact absurd HA.out (by simp [spec_ShareBookOk.l0])
    | succ k2 =>
     have H := HA.out
     clear HA
     simp only [spec_ShareBookOk.l0] at H
     refine ic H ?_ ?_ <;> clear H <;> intro vQ H
     ·obtain ⟨n9, H⟩ := cN H
      have QN := am H
      clear H
      have R7 := cz2 a3
      obtain ⟨fC, qR, r6, qS, r7, lF, g9, Kj, Kk, xC, x5, rI, rG, nR, nW⟩ := aT56 aK HB d3
      cases lF
      go_upto_region 7 with (first | ((with_reducible refine gD 4 ?_); (try (refine gate_guard (by rfl) ?_; dsimp only)); refine bX 4 #[.string (⟨#[]⟩ : ByteArray), .slice none 0 0, .slice none 0 0] 56 ?_; intro tI hg KD hbox hb; have d4 := am hbox; have X3 := am (p3 : w.heap.size ≤ tI); have y5 := X3; replace HB := bS aY hb; have fF := nL aC hg; have lD := nG aC hg; replace a3 := bB aC hb; clear hb hbox hg; have km := nZ1 lD fF; have Eo := cz3 d4))
      (try simp only [Act.put, List.setIfInBounds_toArray, List.set_cons_zero, List.set_cons_succ])
      go_cut [63] (fun pm wc => ∃ (kq : Nat) (F9 : Bool), pm = .bool F9 ∧ Aside0 (spec_ShareBookOk.j2 kq d3 F9 a7 a4 ((rd_T56 a4 d3).f0) ((rd_T56 a4 d3).f1) ((rd_T56 a4 d3).f2) = some r) ∧ Aside0 (kq ≤ k2) ∧ Aside0 (wc.heap[a6]? = some (.cells #[(.slice bG a7.length bH), (.slice (some fC) a4.length bD)] 31 (0, 0))) ∧ Aside0 (wc.heap[tI]? = some (.cells #[.string ((rd_T56 a4 d3).f0), (.slice qR ((rd_T56 a4 d3).f1).length r6), (.slice qS ((rd_T56 a4 d3).f2).length r7)] 56 (0, 0))) ∧ Aside0 (Below w.heap.size w wc))
      case first =>
       have H := QN.1
       clear QN
       obtain ⟨e7, CV, H⟩ := bd H
       refine tC H ?_ ?_ <;> clear H <;> intro VL H <;> subst VL
       ·by_cases EP : d3 > 0
        ·rw [if_pos EP] at H
         have mF : decide (0 < d3) = true := decide_eq_true EP
         clear EP
         (first | rw [mF] | (simp only [i64_w, i32_w]; rw [mF]) | skip)
         obtain ⟨ji19, hji19⟩ : ∃ j_ : Int, (wrap64 (d3 - 1)) = j_ := ⟨_, rfl⟩
         replace H : (if 0 ≤ (ji19) then (if (ji19) < (a4.length : Int) then (if ((Op.bytesLess (((rd_T56 a4 (ji19)).f0).toList) (((rd_T56 a4 d3).f0).toList)) = true) then ((spec_l1NamesOk.f k2 ((rd_T56 a4 d3).f2) a7).bind fun b9 => (if b9 = true then ((spec_l1NamesOk.f k2 ((rd_T56 a4 d3).f1) ((rd_T56 a4 d3).f2)).bind fun eV => (spec_ShareBookOk.j2 k2 d3 (!eV) a7 a4 ((rd_T56 a4 d3).f0) ((rd_T56 a4 d3).f1) ((rd_T56 a4 d3).f2))) else (spec_ShareBookOk.j2 k2 d3 true a7 a4 ((rd_T56 a4 d3).f0) ((rd_T56 a4 d3).f1) ((rd_T56 a4 d3).f2)))) else (spec_ShareBookOk.j2 k2 d3 true a7 a4 ((rd_T56 a4 d3).f0) ((rd_T56 a4 d3).f1) ((rd_T56 a4 d3).f2))) else (none)) else (none)) = some r := by first | (rw [hji19] at H; exact H) | (simp only [hji19] at H ⊢; exact H)
         (try rw [hji19] at CV)
         have hji19w : (IntKind.i64.wrap (d3 - 1)) = ji19 := (i64_w _).trans hji19
         obtain ⟨tF, H⟩ := cN H
         obtain ⟨OQ, H⟩ := cN H
         refine tC H ?_ ?_ <;> clear H <;> intro OR H
         ·obtain ⟨b9, yO, H⟩ := bd H
          refine tC H ?_ ?_ <;> clear H <;> intro DD H <;> subst DD
          ·obtain ⟨eV, ii, H⟩ := bd H
           have H' := am H
           repeat clear H
           try go_wp2
           obtain ⟨Dn, eW_⟩ := eW3 KD tI (.string ((rd_T56 a4 d3).f0)) (.slice qR ((rd_T56 a4 d3).f1).length r6) (.slice qS ((rd_T56 a4 d3).f2).length r7)
           rw [← eW_]
           replace a3 := uF3 eW_ a3 fF
           replace d4 := uP3 eW_ d4
           replace HB := uC3 eW_ HB y5
           clear eW_
           replace a3 := BD a3
           replace d4 := BD d4
           replace HB := am (below_drew1 HB.1)
           obtain ⟨l9, jI, jK, kF, kR, pI, kS, kV, kW, iL, kX, kY, kO, o0, kP, o1, wR, sF⟩ := aTw56 aK HB (ji19)
           obtain rfl : fC = l9 := (by injection pI)
           refine sT [] 36 (uB3 d4 (uB2 a3 (uBx HB kS (uBx HB kV (uAx HB kW))))) (fun hHeld => ?_)
           refine with_tabW spec_ShareBookOk.tab7 spec_ShareBookOk.bits7 (fun HT_ HW_ => ?_)
           generalize Dn.drew = Kq at a3 d4 HB kO kP iL kX kY hHeld ⊢
           refine pU1 0 ?_
           refine tK8 1 (some 29) ?_
           refine oN 2 (some 30) fun K hK => ?_
           refine gQ Try.func70 (spec_l1NameOk.calls k2 ((rd_T56 a4 d3).f0) true _ CV.out) ?_
           rintro w' ⟨nd, rfl⟩
           refine nK hK (uB3 d4 (uB2 a3 (uBx HB kS (uBx HB kV (uAx HB kW))))).1 fun hHeld => ?_
           clear hK K
           refine pU8 3 4 5 6 7 8 10 11 ?_
           refine pU1 15 ?_
           refine tK8 9 (some 37) ?_
           refine pU2 12 13 ?_
           refine tK8 14 (some 42) ?_
           refine tK8 16 (some 44) ?_
           refine pU6 17 18 19 20 21 23 ?_
           refine tK8 22 (some 50) ?_
           refine tK8 24 (some 52) ?_
           refine oN 25 (some 53) fun K hK => ?_
           refine gQ Try.func71 (spec_l1NamesOk.calls k2 _ _ ((rd_T56 a4 d3).f2) _ _ a7 true _ (pC (Kd.C_below rI.1 nJ)) rG.1 (pC (Kd.C_below bC.1 nJ)) bA.1 yO.out) ?_
           rintro w' ⟨nd, rfl⟩
           refine nK hK (uB3 d4 (uB2 a3 (uBx HB kS (uBx HB kV (uAx HB kW))))).1 fun hHeld => ?_
           clear hK K
           refine pU5 26 27 28 29 31 ?_
           refine tK8 30 (some 58) ?_
           refine tK8 32 (some 60) ?_
           refine oN 33 (some 61) fun K hK => ?_
           refine gQ Try.func71 (spec_l1NamesOk.calls k2 _ _ ((rd_T56 a4 d3).f1) _ _ ((rd_T56 a4 d3).f2) eV _ (pC (Kd.C_below xC.1 nJ)) x5.1 (pC (Kd.C_below rI.1 nJ)) rG.1 ii.out) ?_
           rintro w' ⟨nd, rfl⟩
           refine nK hK (uB3 d4 (uB2 a3 (uBx HB kS (uBx HB kV (uAx HB kW))))).1 fun hHeld => ?_
           clear hK K
           refine pU2 34 35 ?_
           refine dN ?_
           try go_wp2
           go_meet
           case rel => exact ⟨_, (!eV), aQ, H', ⟨by have := HJ1.out; have := HK2.out; first | omega | exact Nat.le_refl _⟩, ⟨rB a3.1⟩, ⟨rB d4.1⟩, ⟨nJ⟩⟩
          ·have H' := am H
           repeat clear H
           try go_wp2
           obtain ⟨Kr, eW_⟩ := eW3 KD tI (.string ((rd_T56 a4 d3).f0)) (.slice qR ((rd_T56 a4 d3).f1).length r6) (.slice qS ((rd_T56 a4 d3).f2).length r7)
           rw [← eW_]
           replace a3 := uF3 eW_ a3 fF
           replace d4 := uP3 eW_ d4
           replace HB := uC3 eW_ HB y5
           clear eW_
           replace a3 := BD a3
           replace d4 := BD d4
           replace HB := am (below_drew1 HB.1)
           obtain ⟨l9, jI, jK, kF, kR, pI, kS, kV, kW, iL, kX, kY, kO, o0, kP, o1, wR, sF⟩ := aTw56 aK HB (ji19)
           obtain rfl : fC = l9 := (by injection pI)
           refine sT [] 36 (uB3 d4 (uB2 a3 (uBx HB kS (uBx HB kV (uAx HB kW))))) (fun hHeld => ?_)
           refine with_tabW spec_ShareBookOk.tab7 spec_ShareBookOk.bits7 (fun HT_ HW_ => ?_)
           generalize Kr.drew = dy at a3 d4 HB kO kP iL kX kY hHeld ⊢
           refine pU1 0 ?_
           refine tK8 1 (some 29) ?_
           refine oN 2 (some 30) fun K hK => ?_
           refine gQ Try.func70 (spec_l1NameOk.calls k2 ((rd_T56 a4 d3).f0) true _ CV.out) ?_
           rintro w' ⟨nd, rfl⟩
           refine nK hK (uB3 d4 (uB2 a3 (uBx HB kS (uBx HB kV (uAx HB kW))))).1 fun hHeld => ?_
           clear hK K
           refine pU8 3 4 5 6 7 8 10 11 ?_
           refine pU1 15 ?_
           refine tK8 9 (some 37) ?_
           refine pU2 12 13 ?_
           refine tK8 14 (some 42) ?_
           refine tK8 16 (some 44) ?_
           refine pU6 17 18 19 20 21 23 ?_
           refine tK8 22 (some 50) ?_
           refine tK8 24 (some 52) ?_
           refine oN 25 (some 53) fun K hK => ?_
           refine gQ Try.func71 (spec_l1NamesOk.calls k2 _ _ ((rd_T56 a4 d3).f2) _ _ a7 false _ (pC (Kd.C_below rI.1 nJ)) rG.1 (pC (Kd.C_below bC.1 nJ)) bA.1 yO.out) ?_
           rintro w' ⟨nd, rfl⟩
           refine nK hK (uB3 d4 (uB2 a3 (uBx HB kS (uBx HB kV (uAx HB kW))))).1 fun hHeld => ?_
           clear hK K
           refine pU3 26 27 28 ?_
           refine pV6 29 30 31 32 33 34 ?_
           refine pU1 35 ?_
           refine dN ?_
           try go_wp2
           go_meet
           case rel => exact ⟨_, (true), aQ, H', ⟨by have := HJ1.out; have := HK2.out; first | omega | exact Nat.le_refl _⟩, ⟨rB a3.1⟩, ⟨rB d4.1⟩, ⟨nJ⟩⟩
         ·have H' := am H
          repeat clear H
          try go_wp2
          obtain ⟨Do, eW_⟩ := eW3 KD tI (.string ((rd_T56 a4 d3).f0)) (.slice qR ((rd_T56 a4 d3).f1).length r6) (.slice qS ((rd_T56 a4 d3).f2).length r7)
          rw [← eW_]
          replace a3 := uF3 eW_ a3 fF
          replace d4 := uP3 eW_ d4
          replace HB := uC3 eW_ HB y5
          clear eW_
          replace a3 := BD a3
          replace d4 := BD d4
          replace HB := am (below_drew1 HB.1)
          obtain ⟨l9, jI, jK, kF, kR, pI, kS, kV, kW, iL, kX, kY, kO, o0, kP, o1, wR, sF⟩ := aTw56 aK HB (ji19)
          obtain rfl : fC = l9 := (by injection pI)
          refine sT [] 36 (uB3 d4 (uB2 a3 (uBx HB kS (uBx HB kV (uAx HB kW))))) (fun hHeld => ?_)
          refine with_tabW spec_ShareBookOk.tab7 spec_ShareBookOk.bits7 (fun HT_ HW_ => ?_)
          generalize Do.drew = Ks at a3 d4 HB kO kP iL kX kY hHeld ⊢
          refine pU1 0 ?_
          refine tK8 1 (some 29) ?_
          refine oN 2 (some 30) fun K hK => ?_
          refine gQ Try.func70 (spec_l1NameOk.calls k2 ((rd_T56 a4 d3).f0) true _ CV.out) ?_
          rintro w' ⟨nd, rfl⟩
          refine nK hK (uB3 d4 (uB2 a3 (uBx HB kS (uBx HB kV (uAx HB kW))))).1 fun hHeld => ?_
          clear hK K
          refine pU8 3 4 5 6 7 8 10 11 ?_
          refine pU1 15 ?_
          refine tK8 9 (some 37) ?_
          refine pU2 12 13 ?_
          refine tK8 14 (some 42) ?_
          refine tK8 16 (some 44) ?_
          refine pU4 17 18 19 20 ?_
          refine pV6 21 22 23 24 25 26 ?_
          refine pU2 27 28 ?_
          refine pV6 29 30 31 32 33 34 ?_
          refine pU1 35 ?_
          refine dN ?_
          try go_wp2
          go_meet
          case rel => exact ⟨_, (true), aQ, H', ⟨by have := HJ1.out; have := HK2.out; first | omega | exact Nat.le_refl _⟩, ⟨rB a3.1⟩, ⟨rB d4.1⟩, ⟨nJ⟩⟩
        ·rw [if_neg EP] at H
         have mF : decide (0 < d3) = false := decide_eq_false EP
         clear EP
         (first | rw [mF] | (simp only [i64_w, i32_w]; rw [mF]) | skip)
         obtain ⟨m9, VJ, H⟩ := bd H
         refine tC H ?_ ?_ <;> clear H <;> intro Ya H <;> subst Ya
         ·obtain ⟨jQ, Li, H⟩ := bd H
          have H' := am H
          repeat clear H
          try go_wp2
          obtain ⟨N9, eW_⟩ := eW3 KD tI (.string ((rd_T56 a4 d3).f0)) (.slice qR ((rd_T56 a4 d3).f1).length r6) (.slice qS ((rd_T56 a4 d3).f2).length r7)
          rw [← eW_]
          replace a3 := uF3 eW_ a3 fF
          replace d4 := uP3 eW_ d4
          replace HB := uC3 eW_ HB y5
          clear eW_
          replace a3 := BD a3
          replace d4 := BD d4
          replace HB := am (below_drew1 HB.1)
          refine sT [] 36 (uB3 d4 (uA2 a3)) (fun hHeld => ?_)
          refine with_tabW spec_ShareBookOk.tab7 spec_ShareBookOk.bits7 (fun HT_ HW_ => ?_)
          generalize N9.drew = NA at a3 d4 HB hHeld ⊢
          refine pU1 0 ?_
          refine tK5 1 (some 29) ?_
          refine oN 2 (some 30) fun K hK => ?_
          refine gQ Try.func70 (spec_l1NameOk.calls k2 ((rd_T56 a4 d3).f0) true _ CV.out) ?_
          rintro w' ⟨nd, rfl⟩
          refine nK hK (uB3 d4 (uA2 a3)).1 fun hHeld => ?_
          clear hK K
          refine pU5 3 4 5 6 7 ?_
          refine pV8 8 9 10 11 12 13 14 15 ?_
          refine pV2 16 17 ?_
          refine pU5 18 19 20 21 23 ?_
          refine tK5 22 (some 50) ?_
          refine tK5 24 (some 52) ?_
          refine oN 25 (some 53) fun K hK => ?_
          refine gQ Try.func71 (spec_l1NamesOk.calls k2 _ _ ((rd_T56 a4 d3).f2) _ _ a7 true _ (pC (Kd.C_below rI.1 nJ)) rG.1 (pC (Kd.C_below bC.1 nJ)) bA.1 VJ.out) ?_
          rintro w' ⟨nd, rfl⟩
          refine nK hK (uB3 d4 (uA2 a3)).1 fun hHeld => ?_
          clear hK K
          refine pU5 26 27 28 29 31 ?_
          refine tK5 30 (some 58) ?_
          refine tK5 32 (some 60) ?_
          refine oN 33 (some 61) fun K hK => ?_
          refine gQ Try.func71 (spec_l1NamesOk.calls k2 _ _ ((rd_T56 a4 d3).f1) _ _ ((rd_T56 a4 d3).f2) jQ _ (pC (Kd.C_below xC.1 nJ)) x5.1 (pC (Kd.C_below rI.1 nJ)) rG.1 Li.out) ?_
          rintro w' ⟨nd, rfl⟩
          refine nK hK (uB3 d4 (uA2 a3)).1 fun hHeld => ?_
          clear hK K
          refine pU2 34 35 ?_
          refine dN ?_
          try go_wp2
          go_meet
          case rel => exact ⟨_, (!jQ), aQ, H', ⟨by have := HJ1.out; have := HK2.out; first | omega | exact Nat.le_refl _⟩, ⟨rB a3.1⟩, ⟨rB d4.1⟩, ⟨nJ⟩⟩
         ·have H' := am H
          repeat clear H
          try go_wp2
          obtain ⟨NB, eW_⟩ := eW3 KD tI (.string ((rd_T56 a4 d3).f0)) (.slice qR ((rd_T56 a4 d3).f1).length r6) (.slice qS ((rd_T56 a4 d3).f2).length r7)
          rw [← eW_]
          replace a3 := uF3 eW_ a3 fF
          replace d4 := uP3 eW_ d4
          replace HB := uC3 eW_ HB y5
          clear eW_
          replace a3 := BD a3
          replace d4 := BD d4
          replace HB := am (below_drew1 HB.1)
          refine sT [] 36 (uB3 d4 (uA2 a3)) (fun hHeld => ?_)
          refine with_tabW spec_ShareBookOk.tab7 spec_ShareBookOk.bits7 (fun HT_ HW_ => ?_)
          generalize NB.drew = PO at a3 d4 HB hHeld ⊢
          refine pU1 0 ?_
          refine tK5 1 (some 29) ?_
          refine oN 2 (some 30) fun K hK => ?_
          refine gQ Try.func70 (spec_l1NameOk.calls k2 ((rd_T56 a4 d3).f0) true _ CV.out) ?_
          rintro w' ⟨nd, rfl⟩
          refine nK hK (uB3 d4 (uA2 a3)).1 fun hHeld => ?_
          clear hK K
          refine pU5 3 4 5 6 7 ?_
          refine pV8 8 9 10 11 12 13 14 15 ?_
          refine pV2 16 17 ?_
          refine pU5 18 19 20 21 23 ?_
          refine tK5 22 (some 50) ?_
          refine tK5 24 (some 52) ?_
          refine oN 25 (some 53) fun K hK => ?_
          refine gQ Try.func71 (spec_l1NamesOk.calls k2 _ _ ((rd_T56 a4 d3).f2) _ _ a7 false _ (pC (Kd.C_below rI.1 nJ)) rG.1 (pC (Kd.C_below bC.1 nJ)) bA.1 VJ.out) ?_
          rintro w' ⟨nd, rfl⟩
          refine nK hK (uB3 d4 (uA2 a3)).1 fun hHeld => ?_
          clear hK K
          refine pU3 26 27 28 ?_
          refine pV6 29 30 31 32 33 34 ?_
          refine pU1 35 ?_
          refine dN ?_
          try go_wp2
          go_meet
          case rel => exact ⟨_, (true), aQ, H', ⟨by have := HJ1.out; have := HK2.out; first | omega | exact Nat.le_refl _⟩, ⟨rB a3.1⟩, ⟨rB d4.1⟩, ⟨nJ⟩⟩
       ·have H' := am H
        repeat clear H
        try go_wp2
        obtain ⟨Dp, eW_⟩ := eW3 KD tI (.string ((rd_T56 a4 d3).f0)) (.slice qR ((rd_T56 a4 d3).f1).length r6) (.slice qS ((rd_T56 a4 d3).f2).length r7)
        rw [← eW_]
        replace a3 := uF3 eW_ a3 fF
        replace d4 := uP3 eW_ d4
        replace HB := uC3 eW_ HB y5
        clear eW_
        replace a3 := BD a3
        replace d4 := BD d4
        replace HB := am (below_drew1 HB.1)
        refine sT [] 36 (uA3 d4) (fun hHeld => ?_)
        refine with_tabW spec_ShareBookOk.tab7 spec_ShareBookOk.bits7 (fun HT_ HW_ => ?_)
        generalize Dp.drew = ej at a3 d4 HB hHeld ⊢
        refine pU1 0 ?_
        refine tK3 1 (some 29) ?_
        refine oN 2 (some 30) fun K hK => ?_
        refine gQ Try.func70 (spec_l1NameOk.calls k2 ((rd_T56 a4 d3).f0) false _ CV.out) ?_
        rintro w' ⟨nd, rfl⟩
        refine nK hK (uA3 d4).1 fun hHeld => ?_
        clear hK K
        refine pU2 3 4 ?_
        refine pV8 5 6 7 8 9 10 11 12 ?_
        refine pV6 13 14 15 16 17 18 ?_
        refine pU2 19 20 ?_
        refine pV6 21 22 23 24 25 26 ?_
        refine pU2 27 28 ?_
        refine pV6 29 30 31 32 33 34 ?_
        refine pU1 35 ?_
        refine dN ?_
        try go_wp2
        go_meet
        case rel => exact ⟨_, (true), aQ, H', ⟨by have := HJ1.out; have := HK2.out; first | omega | exact Nat.le_refl _⟩, ⟨rB a3.1⟩, ⟨rB d4.1⟩, ⟨nJ⟩⟩
      case rest =>
       clear QN
       obtain ⟨kq, F9, rfl, HA, LH, a3, d4, HB⟩ := hcut
       cases kq with
       | zero => exact absurd HA.out (by simp [spec_ShareBookOk.j2])
       | succ kj10 =>
        have H := HA.out
        clear HA
        simp only [spec_ShareBookOk.j2] at H
        refine tC H ?_ ?_ <;> clear H <;> intro Yf H <;> subst Yf
        ·obtain rfl := Option.some.inj H
         repeat clear H
         go_wp2
         go_ret
         exact ⟨eR, nJ⟩
        ·have H' := am H
         repeat clear H
         go_wp2
         go_loopg [5] kj10 (fun kq v5 w' => ∃ (DZ : Int), v5 = .int .i64 DZ ∧ Aside0 (spec_ShareBookOk.l1 kq d3 DZ a7 a4 ((rd_T56 a4 d3).f0) ((rd_T56 a4 d3).f1) ((rd_T56 a4 d3).f2) = some r) ∧ Aside0 (kq ≤ kj10) ∧ Aside0 (w'.heap[a6]? = some (.cells #[(.slice bG a7.length bH), (.slice (some fC) a4.length bD)] 31 (0, 0))) ∧ Aside0 (w'.heap[tI]? = some (.cells #[.string ((rd_T56 a4 d3).f0), (.slice qR ((rd_T56 a4 d3).f1).length r6), (.slice qS ((rd_T56 a4 d3).f2).length r7)] 56 (0, 0))) ∧ Aside0 (Below w.heap.size w w'))
         case atStart => exact ⟨(0), aQ, H', ⟨Nat.le_refl _⟩, ⟨rB a3.1⟩, ⟨rB d4.1⟩, ⟨nJ⟩⟩
         case round =>
          clear H'
          try clear Yf
          obtain ⟨DZ, rfl, HA, HK4, a3, d4, HB⟩ := hrel
          cases gk with
          | zero => exact absurd HA.out (by simp [spec_ShareBookOk.l1])
          | succ k4 =>
           have H := HA.out
           clear HA
           simp only [spec_ShareBookOk.l1] at H
           refine ic H ?_ ?_ <;> clear H <;> intro J9 H
           ·obtain ⟨Yg, H⟩ := cN H
            obtain ⟨Yh, H⟩ := cN H
            obtain ⟨eA, Te, H⟩ := bd H
            refine tC H ?_ ?_ <;> clear H <;> intro OY H <;> subst OY
            ·obtain rfl := Option.some.inj H
             repeat clear H
             try go_wp2
             replace a3 := BD a3
             replace d4 := BD d4
             replace HB := am (below_drew1 HB.1)
             obtain ⟨dW, PS, RA, PT, RC, JG, uE, uF, uG, pS, C4, C5, t8, AN, AS, L7, US, UZ⟩ := aTw56 aK HB DZ
             obtain rfl : fC = dW := (by injection JG)
             refine sT [] 9 (uB3 d4 (uB2 a3 (uBx HB uE (uBx HB uF (uAx HB uG))))) (fun hHeld => ?_)
             refine with_tabW spec_ShareBookOk.tab12 spec_ShareBookOk.bits12 (fun HT_ HW_ => ?_)
             generalize wr.drew = So at a3 d4 HB t8 AS pS C4 C5 hHeld ⊢
             refine pU3 0 2 4 ?_
             refine tK8 1 (some 70) ?_
             refine tK8 3 (some 72) ?_
             refine pU2 5 6 ?_
             refine tK8 7 (some 76) ?_
             refine oN 8 (some 77) fun K hK => ?_
             refine gQ Try.func72 (spec_l1Share.calls k4 _ _ ((rd_T56 a4 d3).f1) _ _ ((rd_T56 a4 DZ).f1) true _ (pB xC) x5.1 (pB t8) AN.1 Te.out) ?_
             rintro w' ⟨nd, rfl⟩
             refine nK hK (uB3 d4 (uB2 a3 (uBx HB uE (uBx HB uF (uAx HB uG))))).1 fun hHeld => ?_
             clear hK K
             refine dN ?_
             try go_wp2
             go_ret
             exact ⟨eR, nJ⟩
            ·have H' := am H
             repeat clear H
             try go_wp2
             replace a3 := BD a3
             replace d4 := BD d4
             replace HB := am (below_drew1 HB.1)
             obtain ⟨dW, PS, RA, PT, RC, JG, uE, uF, uG, pS, C4, C5, t8, AN, AS, L7, US, UZ⟩ := aTw56 aK HB DZ
             obtain rfl : fC = dW := (by injection JG)
             refine sT [] 9 (uB3 d4 (uB2 a3 (uBx HB uE (uBx HB uF (uAx HB uG))))) (fun hHeld => ?_)
             refine with_tabW spec_ShareBookOk.tab12 spec_ShareBookOk.bits12 (fun HT_ HW_ => ?_)
             generalize wr.drew = Sq at a3 d4 HB t8 AS pS C4 C5 hHeld ⊢
             refine pU3 0 2 4 ?_
             refine tK8 1 (some 70) ?_
             refine tK8 3 (some 72) ?_
             refine pU2 5 6 ?_
             refine tK8 7 (some 76) ?_
             refine oN 8 (some 77) fun K hK => ?_
             refine gQ Try.func72 (spec_l1Share.calls k4 _ _ ((rd_T56 a4 d3).f1) _ _ ((rd_T56 a4 DZ).f1) false _ (pB xC) x5.1 (pB t8) AN.1 Te.out) ?_
             rintro w' ⟨nd, rfl⟩
             refine nK hK (uB3 d4 (uB2 a3 (uBx HB uE (uBx HB uF (uAx HB uG))))).1 fun hHeld => ?_
             clear hK K
             refine dN ?_
             try go_wp2
             go_roundg k4
             case measure => have := HJ1.out; have := HK2.out; have := LH.out; have := HK4.out; omega
             case rel => exact ⟨(wrap64 (DZ + 1)), aQ, H', ⟨by have := HJ1.out; have := HK2.out; have := LH.out; have := HK4.out; omega⟩, ⟨rB a3.1⟩, ⟨rB d4.1⟩, ⟨nJ⟩⟩
           ·have H' := am H
            repeat clear H
            go_wp2
            go_roundg k4
            case measure => have := HJ1.out; have := HK2.out; have := LH.out; have := HK4.out; omega
            case rel => exact ⟨(wrap64 (d3 + 1)), aQ, H', ⟨by have := HJ1.out; have := HK2.out; have := LH.out; have := HK4.out; omega⟩, ⟨rB a3.1⟩, ⟨nJ⟩⟩
     ·obtain rfl := Option.some.inj H
      repeat clear H
      have qt := cz2 a3
      go_wp2
      go_ret
      exact ⟨eR, aY⟩
end Go.Proofs.Ytaofjgnhapnndaa.Q
namespace Go.Proofs.Ytaofjgnhapnndaa.Q
open Go.RowKit Go.Proofs.YtaofjgnhapnndaaW.PrintWords Go.Proofs.YtaofjgnhapnndaaW.PrintLast Go.Proofs.YtaofjgnhapnndaaW.PrintMore
set_option linter.unusedVariables false
set_option linter.unusedSimpArgs false
def spec_l2Can.l0 : Nat → Int → List ByteArray → Int → List ByteArray → List (S56) → Option (Bool)
 | 0, _, _, _, _, _ => none
 | k + 1, c, d, a, e, b => if a < (b.length : Int) then (if a = c then (spec_l2Can.l0 k c d (wrap64 (a + 1)) e b) else (if 0 ≤ a then ((spec_l1Has.f k d ((rd_T56 b a).f0)).bind fun g => (if g = true then (spec_l2Can.l0 k c d (wrap64 (a + 1)) e b) else (if 0 ≤ c then (if c < (b.length : Int) then ((spec_l1Share.f k ((rd_T56 b a).f1) ((rd_T56 b c).f2)).bind fun h => (if h = true then (some false) else (spec_l2Can.l0 k c d (wrap64 (a + 1)) e b))) else (none)) else (none)))) else (none))) else (some true)
def spec_l2Can.f (k : Nat) (a7 : List ByteArray) (a4 : List (S56)) (a1 : Int) (l2 : List ByteArray) : Option (Bool) := spec_l2Can.l0 k a1 l2 0 a7 a4
theorem spec_l2Can.calls (k : Nat) (bG : Option Addr) (bH : Nat) (a7 : List ByteArray) (bL : Option Addr) (bD : Nat) (a4 : List (S56)) (a1 : Int) (A2 : Option Addr) (c2 : Nat) (l2 : List ByteArray) (r : Bool) (w : World) (cZ : Kd.C Kd.string w bG a7.length a7) (cX : a7.length ≤ bH) (cU : Kd.C k56 w bL a4.length a4) (cY : a4.length ≤ bD) (DR : Kd.C Kd.string w A2 l2.length l2) (DM : l2.length ≤ c2) (h : spec_l2Can.f k a7 a4 a1 l2 = some r) :
  Calls Try.prog 83 #[.agg #[.slice bG a7.length bH, .slice bL a4.length bD], .int .i64 a1, .slice A2 l2.length c2] w fun e w' => e = .returned (.bool r) ∧ Below w.heap.size w w' := by
 have hu31 := Try.underlying31
 obtain ⟨bC, bA⟩ := mZ2 cZ cX
 obtain ⟨aK, bM⟩ := mZ2 cU cY
 obtain ⟨sU, oL⟩ := mZ2 DR DM
 clear cZ cX cU cY DR DM
 have HB := am (Below.refl w.heap.size w)
 unfold spec_l2Can.f at h
 have H := h
 clear h
 have H' := am H
 repeat clear H
 go_enter Try.func83, Try.ntmps83
 go_wp2_with (first | ((with_reducible refine gD 3 ?_); refine bX 3 #[.slice bG a7.length bH, .slice bL a4.length bD] 31 ?_; intro a6 hg w4 hbox hb; have a3 := am hbox; have bR := am (hJ : w.heap.size ≤ a6); have cJ := bR; replace HB := bS cI hb; clear hb hbox hg))
 repeat (go_quiet (first | ((with_reducible refine gD 3 ?_); refine bX 3 #[.slice bG a7.length bH, .slice bL a4.length bD] 31 ?_; intro a6 hg w4 hbox hb; have a3 := am hbox; have bR := am (hJ : w.heap.size ≤ a6); have cJ := am (hJ : w.heap.size ≤ a6); replace HB := bS cI hb; clear hb hbox hg)); try go_wp2_with (first | ((with_reducible refine gD 3 ?_); refine bX 3 #[.slice bG a7.length bH, .slice bL a4.length bD] 31 ?_; intro a6 hg w4 hbox hb; have a3 := am hbox; have bR := am (hJ : w.heap.size ≤ a6); have cJ := am (hJ : w.heap.size ≤ a6); replace HB := bS cI hb; clear hb hbox hg)))
 go_loopg [7] k (fun kq v7 w' => ∃ (d7 : Int), v7 = .int .i64 d7 ∧ Aside0 (spec_l2Can.l0 kq a1 l2 d7 a7 a4 = some r) ∧ Aside0 (kq ≤ k) ∧ Aside0 (w'.heap[a6]? = some (.cells #[(.slice bG a7.length bH), (.slice bL a4.length bD)] 31 (0, 0))) ∧ Aside0 (Below w.heap.size w w'))
 case atStart => exact ⟨(0), aQ, H', ⟨Nat.le_refl _⟩, ⟨rB a3.1⟩, ⟨aY⟩⟩
 clear H'
 try clear c2
 obtain ⟨d7, rfl, HA, HK1, a3, HB⟩ := hrel
 cases gk with
 | zero => exact absurd HA.out (by simp [spec_l2Can.l0])
 | succ k1 =>
  have H := HA.out
  clear HA
  simp only [spec_l2Can.l0] at H
  refine ic H ?_ ?_ <;> clear H <;> intro pH H
  refine iq H ?_ ?_ <;> clear H <;> intro c6 sC EQ H
  have H' := am H
  repeat clear H
  have Z7 := cz2 a3
  rotate_left
  obtain ⟨sD, H⟩ := cN H
  obtain ⟨bE, A9, H⟩ := bd H
  refine tC H ?_ ?_ <;> clear H <;> intro D9 H <;> subst D9
  have H' := am H
  repeat clear H
  have LT := cz2 a3
  obtain ⟨fA, iO, iU, iP, iV, iE, f7, fQ, fT, g7, fZ, j7, j5, oF, oH⟩ := aT56 aK HB d7
  cases iE
  have XT := trivial
  rotate_left
  obtain ⟨tD, H⟩ := cN H
  obtain ⟨zP, H⟩ := cN H
  obtain ⟨bT, VG, H⟩ := bd H
  refine tC H ?_ ?_ <;> clear H <;> intro RQ H <;> subst RQ
  obtain rfl := Option.some.inj H
  repeat clear H
  have Ep := cz2 a3
  obtain ⟨fA, iO, iU, iP, iV, iE, f7, fQ, fT, g7, fZ, j7, j5, oF, oH⟩ := aT56 aK HB d7
  cases iE
  have R1 := trivial
  have XU := trivial
  rotate_left
  have H' := am H
  repeat clear H
  have Er := cz2 a3
  obtain ⟨fA, iO, iU, iP, iV, iE, f7, fQ, fT, g7, fZ, j7, j5, oF, oH⟩ := aT56 aK HB d7
  cases iE
  have R1 := trivial
  have XV := trivial
  rotate_left
  obtain rfl := Option.some.inj H
  repeat clear H
  have Mm := cz2 a3
  rotate_left
  all_goals
   go_wp2_with (first | (go_at_call 80; revert XT; intro XT; refine cM (spec_l1Has.calls k1 _ _ l2 ((rd_T56 a4 d7).f0) true _ (pB sU) oL.1 A9.out) ?_; rintro w' ⟨nd, rfl⟩; (try exact dR)) | (go_at_call 80; revert R1; intro R1; refine cM (spec_l1Has.calls k1 _ _ l2 ((rd_T56 a4 d7).f0) false _ (pB sU) oL.1 A9.out) ?_; rintro w' ⟨nd, rfl⟩; (try exact dR); obtain ⟨eG, i9, iB, iA, iC, jW, hU, lM, lO, hP, hO, kN, kI, sY, t0⟩ := aT56 aK HB d7; obtain rfl : fA = eG := (by injection jW); obtain ⟨ea_, ec_⟩ := eZ2 fQ lM; subst ea_; subst ec_; obtain ⟨ea_, ec_⟩ := eZ2 fT lO; subst ea_; subst ec_; obtain ⟨oV, vC, vO, vD, vP, vR, o9, oA, oB, o8, rH, gR, iH, HE, yY⟩ := aT56 aK HB a1; obtain rfl : fA = oV := (by injection vR)) | (go_at_call 72; revert XU; intro XU; refine cM (spec_l1Share.calls k1 _ _ ((rd_T56 a4 d7).f1) _ _ ((rd_T56 a4 a1).f2) true _ (pC (Kd.C_below hP.1 aY)) hO.1 (pC (Kd.C_below gR.1 aY)) iH.1 VG.out) ?_; rintro w' ⟨nd, rfl⟩; (try exact dR)) | (go_at_call 72; revert XV; intro XV; refine cM (spec_l1Share.calls k1 _ _ ((rd_T56 a4 d7).f1) _ _ ((rd_T56 a4 a1).f2) false _ (pC (Kd.C_below hP.1 aY)) hO.1 (pC (Kd.C_below gR.1 aY)) iH.1 VG.out) ?_; rintro w' ⟨nd, rfl⟩; (try exact dR)))
  ·repeat (go_quiet (fail); try go_wp2)
   go_roundg k1
   case measure => have := HK1.out; omega
   case rel => exact ⟨(wrap64 (d7 + 1)), aQ, H', ⟨by have := HK1.out; omega⟩, ⟨rB a3.1⟩, ⟨aY⟩⟩
  ·repeat (go_quiet (first | (go_at_call 80; refine cM (spec_l1Has.calls k1 _ _ l2 ((rd_T56 a4 d7).f0) true _ (pB sU) oL.1 A9.out) ?_; rintro w' ⟨nd, rfl⟩; (try exact dR))); try go_wp2_with (first | (go_at_call 80; refine cM (spec_l1Has.calls k1 _ _ l2 ((rd_T56 a4 d7).f0) true _ (pB sU) oL.1 A9.out) ?_; rintro w' ⟨nd, rfl⟩; (try exact dR))))
   go_roundg k1
   case measure => have := HK1.out; omega
   case rel => exact ⟨(wrap64 (d7 + 1)), aQ, H', ⟨by have := HK1.out; omega⟩, ⟨rB a3.1⟩, ⟨aY⟩⟩
  ·repeat (go_quiet (first | (go_at_call 80; refine cM (spec_l1Has.calls k1 _ _ l2 ((rd_T56 a4 d7).f0) false _ (pB sU) oL.1 A9.out) ?_; rintro w' ⟨nd, rfl⟩; (try exact dR); obtain ⟨eG, i9, iB, iA, iC, jW, hU, lM, lO, hP, hO, kN, kI, sY, t0⟩ := aT56 aK HB d7; obtain rfl : fA = eG := (by injection jW); have ea_ := Option.some.inj (fQ.symm.trans lM); injection ea_ with ea_ en_ ec_; subst ea_; subst ec_; clear en_; have ea_ := Option.some.inj (fT.symm.trans lO); injection ea_ with ea_ en_ ec_; subst ea_; subst ec_; clear en_; obtain ⟨oV, vC, vO, vD, vP, vR, o9, oA, oB, o8, rH, gR, iH, HE, yY⟩ := aT56 aK HB a1; obtain rfl : fA = oV := (by injection vR)) | (go_at_call 72; refine cM (spec_l1Share.calls k1 _ _ ((rd_T56 a4 d7).f1) _ _ ((rd_T56 a4 a1).f2) true _ (pC (Kd.C_below hP.1 aY)) hO.1 (pC (Kd.C_below gR.1 aY)) iH.1 VG.out) ?_; rintro w' ⟨nd, rfl⟩; (try exact dR))); try go_wp2_with (first | (go_at_call 80; refine cM (spec_l1Has.calls k1 _ _ l2 ((rd_T56 a4 d7).f0) false _ (pB sU) oL.1 A9.out) ?_; rintro w' ⟨nd, rfl⟩; (try exact dR); obtain ⟨eG, i9, iB, iA, iC, jW, hU, lM, lO, hP, hO, kN, kI, sY, t0⟩ := aT56 aK HB d7; obtain rfl : fA = eG := (by injection jW); have ea_ := Option.some.inj (fQ.symm.trans lM); injection ea_ with ea_ en_ ec_; subst ea_; subst ec_; clear en_; have ea_ := Option.some.inj (fT.symm.trans lO); injection ea_ with ea_ en_ ec_; subst ea_; subst ec_; clear en_; obtain ⟨oV, vC, vO, vD, vP, vR, o9, oA, oB, o8, rH, gR, iH, HE, yY⟩ := aT56 aK HB a1; obtain rfl : fA = oV := (by injection vR)) | (go_at_call 72; refine cM (spec_l1Share.calls k1 _ _ ((rd_T56 a4 d7).f1) _ _ ((rd_T56 a4 a1).f2) true _ (pC (Kd.C_below hP.1 aY)) hO.1 (pC (Kd.C_below gR.1 aY)) iH.1 VG.out) ?_; rintro w' ⟨nd, rfl⟩; (try exact dR))))
   go_ret
   exact ⟨eR, aY⟩
  ·repeat (go_quiet (first | (go_at_call 80; refine cM (spec_l1Has.calls k1 _ _ l2 ((rd_T56 a4 d7).f0) false _ (pB sU) oL.1 A9.out) ?_; rintro w' ⟨nd, rfl⟩; (try exact dR); obtain ⟨eG, i9, iB, iA, iC, jW, hU, lM, lO, hP, hO, kN, kI, sY, t0⟩ := aT56 aK HB d7; obtain rfl : fA = eG := (by injection jW); have ea_ := Option.some.inj (fQ.symm.trans lM); injection ea_ with ea_ en_ ec_; subst ea_; subst ec_; clear en_; have ea_ := Option.some.inj (fT.symm.trans lO); injection ea_ with ea_ en_ ec_; subst ea_; subst ec_; clear en_; obtain ⟨oV, vC, vO, vD, vP, vR, o9, oA, oB, o8, rH, gR, iH, HE, yY⟩ := aT56 aK HB a1; obtain rfl : fA = oV := (by injection vR)) | (go_at_call 72; refine cM (spec_l1Share.calls k1 _ _ ((rd_T56 a4 d7).f1) _ _ ((rd_T56 a4 a1).f2) false _ (pC (Kd.C_below hP.1 aY)) hO.1 (pC (Kd.C_below gR.1 aY)) iH.1 VG.out) ?_; rintro w' ⟨nd, rfl⟩; (try exact dR))); try go_wp2_with (first | (go_at_call 80; refine cM (spec_l1Has.calls k1 _ _ l2 ((rd_T56 a4 d7).f0) false _ (pB sU) oL.1 A9.out) ?_; rintro w' ⟨nd, rfl⟩; (try exact dR); obtain ⟨eG, i9, iB, iA, iC, jW, hU, lM, lO, hP, hO, kN, kI, sY, t0⟩ := aT56 aK HB d7; obtain rfl : fA = eG := (by injection jW); have ea_ := Option.some.inj (fQ.symm.trans lM); injection ea_ with ea_ en_ ec_; subst ea_; subst ec_; clear en_; have ea_ := Option.some.inj (fT.symm.trans lO); injection ea_ with ea_ en_ ec_; subst ea_; subst ec_; clear en_; obtain ⟨oV, vC, vO, vD, vP, vR, o9, oA, oB, o8, rH, gR, iH, HE, yY⟩ := aT56 aK HB a1; obtain rfl : fA = oV := (by injection vR)) | (go_at_call 72; refine cM (spec_l1Share.calls k1 _ _ ((rd_T56 a4 d7).f1) _ _ ((rd_T56 a4 a1).f2) false _ (pC (Kd.C_below hP.1 aY)) hO.1 (pC (Kd.C_below gR.1 aY)) iH.1 VG.out) ?_; rintro w' ⟨nd, rfl⟩; (try exact dR))))
   go_roundg k1
   case measure => have := HK1.out; omega
   case rel => exact ⟨(wrap64 (d7 + 1)), aQ, H', ⟨by have := HK1.out; omega⟩, ⟨rB a3.1⟩, ⟨aY⟩⟩
  ·repeat (go_quiet (fail); try go_wp2)
   go_ret
   exact ⟨eR, aY⟩
mutual
def spec_ShareMoves.l0 : Nat → List ByteArray → Int → List ByteArray → List (S56) → Option (List ByteArray)
 | 0, _, _, _, _ => none
 | k + 1, d, b, c, a => if b < (a.length : Int) then ((spec_ShareBookOk.f k c a).bind fun e => (spec_ShareMoves.j1 k d b e c a)) else (spec_ShareMoves.j1 k d b false c a)
def spec_ShareMoves.j1 : Nat → List ByteArray → Int → Bool → List ByteArray → List (S56) → Option (List ByteArray)
 | 0, _, _, _, _, _ => none
 | k + 1, c, a, e, d, b => if e = true then ((spec_l2Can.f k d b a (([] : List ByteArray))).bind fun g => (if g = true then (if 0 ≤ a then (if a < (b.length : Int) then (if c.length < 8796093022208 then (spec_ShareMoves.l0 k (c ++ [(rd_T56 b a).f0]) (wrap64 (a + 1)) d b) else (none)) else (none)) else (none)) else (spec_ShareMoves.l0 k c (wrap64 (a + 1)) d b))) else (some c)
end
def spec_ShareMoves.f (k : Nat) (a7 : List ByteArray) (a4 : List (S56)) : Option (List ByteArray) := spec_ShareMoves.l0 k (([] : List ByteArray)) 0 a7 a4
theorem spec_ShareMoves.calls (k : Nat) (bG : Option Addr) (bH : Nat) (a7 : List ByteArray) (bL : Option Addr) (bD : Nat) (a4 : List (S56)) (r : List ByteArray) (w : World) (cZ : Kd.C Kd.string w bG a7.length a7) (cX : a7.length ≤ bH) (cU : Kd.C k56 w bL a4.length a4) (cY : a4.length ≤ bD) (h : spec_ShareMoves.f k a7 a4 = some r) :
  Calls Try.prog 42 #[.agg #[.slice bG a7.length bH, .slice bL a4.length bD]] w fun e w' => ∃ v0_ : Value, e = .returned (v0_) ∧ Kd.R Kd.string 9 w' w.heap.size (fun _ => True) v0_ r ∧ Below w.heap.size w w' := by
 have hu31 := Try.underlying31
 obtain ⟨bC, bA⟩ := mZ2 cZ cX
 obtain ⟨aK, bM⟩ := mZ2 cU cY
 clear cZ cX cU cY
 have HB := am (Below.refl w.heap.size w)
 unfold spec_ShareMoves.f at h
 have H := h
 clear h
 obtain ⟨CU, hy102⟩ : ∃ y_ : List ByteArray, y_ = (([] : List ByteArray)) := ⟨_, rfl⟩
 replace H : (spec_ShareMoves.l0 k CU 0 a7 a4) = some r := by first | (rw [hy102]; with_reducible exact H) | (have H2_ := (Option.bind_some _ _).symm.trans H; rw [hy102]; with_reducible exact H2_) | (have H2_ := (Option.bind_some _ _).symm.trans H; with_reducible exact H2_) | with_reducible exact H | (rw [hy102]; exact H) | exact H
 have sL := am hy102
 clear hy102
 have H' := am H
 repeat clear H
 go_enter Try.func42, Try.ntmps42
 go_wp2_with (first | ((with_reducible refine gD 1 ?_); refine bX 1 #[.slice bG a7.length bH, .slice bL a4.length bD] 31 ?_; intro a6 hg w2 hbox hb; have a3 := am hbox; have bR := am (hJ : w.heap.size ≤ a6); have cJ := bR; replace HB := bS cI hb; clear hb hbox hg) | ((with_reducible refine gate_dst (N := 5) rfl ?_); refine lS 9 5 sL ?_; intro vW w3 Cm hb; have dK := am (Kd.R_lower Cm (below_size aY)); replace a3 := bB aC hb; replace HB := bS aY hb; clear hb Cm))
 go_loopg [3, 4] k (fun kq v3 v4 w' => ∃ (dI : List ByteArray) (dP : Int), v4 = .int .i64 dP ∧ Aside0 (spec_ShareMoves.l0 kq dI dP a7 a4 = some r) ∧ Aside0 (kq ≤ k) ∧ Aside0 (Kd.R Kd.string 9 w' w.heap.size (fun _ => True) v3 dI) ∧ Aside0 (w'.heap[a6]? = some (.cells #[(.slice bG a7.length bH), (.slice bL a4.length bD)] 31 (0, 0))) ∧ Aside0 (Below w.heap.size w w'))
 case atStart => exact ⟨(CU), (0), aQ, H', ⟨Nat.le_refl _⟩, ⟨rR dK.1⟩, ⟨rB a3.1⟩, ⟨aY⟩⟩
 clear H'
 obtain ⟨dI, dP, rfl, HA, HK1, m4, a3, HB⟩ := hrel
 cases gk with
 | zero => exact absurd HA.out (by simp [spec_ShareMoves.l0])
 | succ k1 =>
  have H := HA.out
  clear HA
  simp only [spec_ShareMoves.l0] at H
  have QT := am H
  clear H
  go_upto_region 3 with ((fail))
  go_cut [14] (fun ou wc => ∃ (kq : Nat) (KJ : Bool), ou = .bool KJ ∧ Aside0 (spec_ShareMoves.j1 kq dI dP KJ a7 a4 = some r) ∧ Aside0 (kq ≤ k1) ∧ Aside0 (Kd.R Kd.string 9 wc w.heap.size (fun _ => True) u3 dI) ∧ Aside0 (wc.heap[a6]? = some (.cells #[(.slice bG a7.length bH), (.slice bL a4.length bD)] 31 (0, 0))) ∧ Aside0 (Below w.heap.size w wc))
  case first =>
   have H := QT.1
   clear QT
   refine ic H ?_ ?_ <;> clear H <;> intro sC H
   ·(first | rw [sC] | (simp only [i64_w, i32_w]; rw [sC]) | skip)
    obtain ⟨e7, A7, H⟩ := bd H
    have H' := am H
    repeat clear H
    have Z8 := cz2 a3
    go_wp2_with (first | (go_at_call 22; refine cM (spec_ShareBookOk.calls k1 _ _ a7 _ _ a4 e7 _ (pB bC) bA.1 (pB aK) bM.1 A7.out) ?_; rintro w9 hb; replace m4 := RB uS hb; replace a3 := bB aC hb; replace HB := bS aY hb; (try clear hb)))
    go_meet
    case rel => exact ⟨_, (e7), aQ, H', ⟨by have := HK1.out; first | omega | exact Nat.le_refl _⟩, ⟨rR m4.1⟩, ⟨rB a3.1⟩, ⟨aY⟩⟩
   ·(first | rw [sC] | (simp only [i64_w, i32_w]; rw [sC]) | skip)
    have H' := am H
    repeat clear H
    have Y8 := cz2 a3
    go_wp2
    go_meet
    case rel => exact ⟨_, (false), aQ, H', ⟨by have := HK1.out; first | omega | exact Nat.le_refl _⟩, ⟨rR m4.1⟩, ⟨rB a3.1⟩, ⟨aY⟩⟩
  case rest =>
   clear QT
   obtain ⟨kq, KJ, rfl, HA, HJ4, m4, a3, HB⟩ := hcut
   cases kq with
   | zero => exact absurd HA.out (by simp [spec_ShareMoves.j1])
   | succ kj4 =>
    have H := HA.out
    clear HA
    simp only [spec_ShareMoves.j1] at H
    refine tC H ?_ ?_ <;> clear H <;> intro yR H <;> subst yR
    ·obtain ⟨FD, hy106⟩ : ∃ y_ : List ByteArray, y_ = (([] : List ByteArray)) := ⟨_, rfl⟩
     replace H : ((spec_l2Can.f kj4 a7 a4 dP FD).bind fun m9 => (if m9 = true then (if 0 ≤ dP then (if dP < (a4.length : Int) then (if dI.length < 8796093022208 then (spec_ShareMoves.l0 kj4 (dI ++ [(rd_T56 a4 dP).f0]) (wrap64 (dP + 1)) a7 a4) else (none)) else (none)) else (none)) else (spec_ShareMoves.l0 kj4 dI (wrap64 (dP + 1)) a7 a4))) = some r := by first | (rw [hy106]; with_reducible exact H) | (have H2_ := (Option.bind_some _ _).symm.trans H; rw [hy106]; with_reducible exact H2_) | (have H2_ := (Option.bind_some _ _).symm.trans H; with_reducible exact H2_) | with_reducible exact H | (rw [hy106]; exact H) | exact H
     have G4 := am hy106
     clear hy106
     obtain ⟨m9, VF, H⟩ := bd H
     refine tC H ?_ ?_ <;> clear H <;> intro EN H <;> subst EN
     ·obtain ⟨DA, H⟩ := cN H
      obtain ⟨DB, H⟩ := cN H
      obtain ⟨XC, H⟩ := cL H
      obtain ⟨FE, lU⟩ := yv (dI ++ [(rd_T56 a4 dP).f0]); first | replace H := bW lU H | rw [← lU.1] at H
      have H' := am H
      repeat clear H
      have Er := cz2 a3
      go_wp2_with (first | ((with_reducible refine gate_dst (N := 19) rfl ?_); refine lS 9 19 G4 ?_; intro V8 dj UD hb; have iI := am (Kd.R_lower (Kd.R_new' UD (Kd.R_lt uS)) (below_size aY)); replace m4 := am (Kd.R_elder' uS (Kd.R_base UD) hb); replace a3 := bB aC hb; replace HB := bS aY hb; clear hb UD; obtain ⟨jJ, eM, yG⟩ := Kd.R_slice iI.1; subst yG) | ((with_reducible refine gC 83 ?_); refine cQ (some 20) Try.func83 (spec_l2Can.calls kj4 _ _ a7 _ _ a4 dP _ _ FD true _ (pB bC) bA.1 (pB aK) bM.1 (pC (Kd.R_reads' iI.1).2.2) ((Kd.R_reads' iI.1).2.1) VF.out) ?_; rintro HT hb; replace m4 := RB uS hb; replace iI := am (Kd.R_below (rR iI.1) hb); replace a3 := bB aC hb; replace HB := bS aY hb; (try clear hb); have Mn := cz2 a3; obtain ⟨yB, AC, AV, AD, AW, BC, xT, pQ, pR, xE, x6, xF, x9, MV, N1⟩ := aT56 aK HB dP; cases BC) | ((with_reducible refine gate_builtin (b := .append) (xs := #[.tmp 21, .tmp 28]) rfl ?_); at_builtin; refine Kd.R_append Kd.string (w0 := w) w.heap.size rfl (.tmp 21) (.tmp 28) 23 9 (.string ⟨#[]⟩) 16 rfl Try.underlying23 info9 rfl (by decide) (by omega) u3 dI ((rd_T56 a4 dP).f0) [.string ((rd_T56 a4 dP).f0)] (fun k_ => some k_ ≠ (.slice jJ FD.length eM : Value).ownBlock) (fun _ => False) rfl rfl ?aP (fun _ hk => hk.elim) ?aF ?aO ?aB ?aS ?aL ?_; (case aP => exact rfl); (case aB => exact aY); (case aF => exact (fun k_ hk => Kd.fresh' (Kd.R_lt (rR iI.1)) k_ hk)); (case aO => exact (by refine rR ?_; exact Kd.R_mono m4.1 (fun _ hk => hk.2))); (case aS => exact (below_size aY)); (case aL => have := XC.out; omega); intro yL z5 ho hb hg hat; rw [← lU.out] at ho; replace a3 := gkR aC hg m4 a3; replace iI := am (Kd.R_after (ok := (fun _ => True)) (rR iI.1) hg hat); replace HB := am hb; have eP := am ho; clear m4; clear ho hb hg hat))
      go_roundg kj4
      case measure => have := HK1.out; have := HJ4.out; omega
      case rel => exact ⟨(FE), (wrap64 (dP + 1)), aQ, H', ⟨by have := HK1.out; have := HJ4.out; omega⟩, ⟨by refine rR ?_; exact Kd.R_mono eP.1 (fun _ hk => trivial)⟩, ⟨rB a3.1⟩, ⟨aY⟩⟩
     ·have H' := am H
      repeat clear H
      have Mo := cz2 a3
      go_wp2_with (first | ((with_reducible refine gate_dst (N := 19) rfl ?_); refine lS 9 19 G4 ?_; intro V8 WG UG hb; have iI := am (Kd.R_lower (Kd.R_new' UG (Kd.R_lt uS)) (below_size aY)); replace m4 := am (Kd.R_elder' uS (Kd.R_base UG) hb); replace a3 := bB aC hb; replace HB := bS aY hb; clear hb UG; obtain ⟨WT, ZV, M4⟩ := Kd.R_slice iI.1; subst M4) | ((with_reducible refine gC 83 ?_); refine cQ (some 20) Try.func83 (spec_l2Can.calls kj4 _ _ a7 _ _ a4 dP _ _ FD false _ (pB bC) bA.1 (pB aK) bM.1 (pC (Kd.R_reads' iI.1).2.2) ((Kd.R_reads' iI.1).2.1) VF.out) ?_; rintro Kr hb; replace m4 := RB uS hb; replace iI := am (Kd.R_below (rR iI.1) hb); replace a3 := bB aC hb; replace HB := bS aY hb; (try clear hb)))
      go_roundg kj4
      case measure => have := HK1.out; have := HJ4.out; omega
      case rel => exact ⟨(dI), (wrap64 (dP + 1)), aQ, H', ⟨by have := HK1.out; have := HJ4.out; omega⟩, ⟨by refine rR ?_; exact Kd.R_mono m4.1 (fun _ hk => trivial)⟩, ⟨rB a3.1⟩, ⟨aY⟩⟩
    ·obtain rfl := Option.some.inj H
     repeat clear H
     go_wp2
     go_ret
     exact ⟨_, eR, rR m4.1, aY⟩
end Go.Proofs.Ytaofjgnhapnndaa.Q
namespace Go.Proofs.Ytaofjgnhapnndaa.Q
open Go.RowKit Go.Proofs.YtaofjgnhapnndaaW.PrintWords Go.Proofs.YtaofjgnhapnndaaW.PrintLast Go.Proofs.YtaofjgnhapnndaaW.PrintMore
set_option linter.unusedVariables false
set_option linter.unusedSimpArgs false
def spec_ShareStuck.f (k : Nat) (a7 : List ByteArray) (a4 : List (S56)) : Option (Bool) := (spec_ShareBookOk.f k a7 a4).bind fun a => (if a = true then (if (a4.length : Int) > 0 then ((spec_ShareMoves.f k a7 a4).bind fun b => (some ((b.length : Int) == 0))) else (some false)) else (some false))
theorem spec_ShareStuck.calls (k : Nat) (bG : Option Addr) (bH : Nat) (a7 : List ByteArray) (bL : Option Addr) (bD : Nat) (a4 : List (S56)) (r : Bool) (w : World) (cZ : Kd.C Kd.string w bG a7.length a7) (cX : a7.length ≤ bH) (cU : Kd.C k56 w bL a4.length a4) (cY : a4.length ≤ bD) (h : spec_ShareStuck.f k a7 a4 = some r) :
  Calls Try.prog 28 #[.agg #[.slice bG a7.length bH, .slice bL a4.length bD]] w fun e w' => e = .returned (.bool r) ∧ Below w.heap.size w w' := by
 have hu31 := Try.underlying31
 obtain ⟨bC, bA⟩ := mZ2 cZ cX
 obtain ⟨aK, bM⟩ := mZ2 cU cY
 clear cZ cX cU cY
 have HB := am (Below.refl w.heap.size w)
 unfold spec_ShareStuck.f at h
 have H := h
 clear h
 obtain ⟨eB, A2, H⟩ := bd H
 refine tC H ?_ ?_ <;> clear H <;> intro c3 H <;> subst c3
 by_cases c4 : (a4.length : Int) > 0
 rw [if_pos c4] at H
 have jE : decide (0 < (a4.length : Int)) = true := decide_eq_true c4
 have yS : decide (0 < a4.length) = true := decide_eq_true (by omega)
 clear c4
 obtain ⟨bE, A5, H⟩ := bd H
 obtain rfl := Option.some.inj H
 repeat clear H
 have R2 := trivial
 have XW := trivial
 rotate_left
 rw [if_neg c4] at H
 have jE : decide (0 < (a4.length : Int)) = false := decide_eq_false c4
 have yS : decide (0 < a4.length) = false := decide_eq_false (by omega)
 clear c4
 obtain rfl := Option.some.inj H
 repeat clear H
 have R2 := trivial
 rotate_left
 obtain rfl := Option.some.inj H
 repeat clear H
 have XX := trivial
 rotate_left
 all_goals
  go_enter Try.func28, Try.ntmps28
  go_wp2_with (first | ((with_reducible refine gD 1 ?_); (try (refine gate_guard (by rfl) ?_; dsimp only)); refine bX 1 #[.slice bG a7.length bH, .slice bL a4.length bD] 31 ?_; intro a6 hg dk hbox hb; have a3 := am hbox; have bR := am (hJ : w.heap.size ≤ a6); have cJ := bR; replace HB := bS cI hb; clear hb hbox hg; have Uc := cz2 a3) | ((with_reducible refine gC 22 ?_); revert R2; intro R2; refine cQ (some 4) Try.func22 (spec_ShareBookOk.calls k _ _ a7 _ _ a4 true _ (pB bC) bA.1 (pB aK) bM.1 A2.out) ?_; rintro dl hb; replace a3 := bB aC hb; replace HB := bS aY hb; (try clear hb); have Ud := cz2 a3) | (go_at_call 42; revert XW; intro XW; (with_reducible refine (spec_ShareMoves.calls k _ _ a7 _ _ a4 bE _ ?side1 ?side2 ?side3 ?side4 A5.out).mono ?_); (case side1 => exact pC (Kd.C_below bC.1 HB.1)); (case side2 => exact bA.1); (case side3 => exact pC (Kd.C_below aK.1 HB.1)); (case side4 => exact bM.1); rintro e dm ⟨nO, rfl, bQ, hb⟩; have eE := am (Kd.R_lower bQ (below_size aY)); replace a3 := bB aC hb; replace HB := bS aY hb; (try clear hb); (try clear bQ); obtain ⟨Ln, Nq, SQ⟩ := Kd.R_slice eE.1; subst SQ) | ((with_reducible refine gC 22 ?_); revert XX; intro XX; refine cQ (some 4) Try.func22 (spec_ShareBookOk.calls k _ _ a7 _ _ a4 false _ (pB bC) bA.1 (pB aK) bM.1 A2.out) ?_; rintro dn hb; replace a3 := bB aC hb; replace HB := bS aY hb; (try clear hb)))
 ·go_ret
  exact ⟨eR, aY⟩
 ·go_ret
  exact ⟨eR, aY⟩
 go_ret
 exact ⟨eR, aY⟩
def slices_Index_string_string.l0 : Nat → List ByteArray → ByteArray → Int → Int → Option (Int)
 | 0, _, _, _, _ => none
 | k + 1, b, c, d, a => if a < d then (if 0 ≤ a then (if a < (b.length : Int) then (if c.toList = (rdOf ByteArray.empty b a).toList then (some a) else (slices_Index_string_string.l0 k b c d (wrap64 (a + 1)))) else (none)) else (none)) else (some (-1))
def slices_Index_string_string.f (k : Nat) (l0 : List ByteArray) (a1 : ByteArray) : Option (Int) := slices_Index_string_string.l0 k l0 a1 (l0.length : Int) 0
theorem slices_Index_string_string.mono_l : ∀ k, (∀ y0 y1 y2 y3, LeO (slices_Index_string_string.l0 k y0 y1 y2 y3) (slices_Index_string_string.l0 (k + 1) y0 y1 y2 y3))
 | 0 => fun _ _ _ _ r h => by simp [slices_Index_string_string.l0] at h
 | k + 1 => by
  have ih0 := slices_Index_string_string.mono_l k
  ·intro y0 y1 y2 y3
   unfold slices_Index_string_string.l0
   repeat' first
   | (with_reducible exact ih0 _ _ _ _)
   | (with_reducible exact LeO.refl _)
   | (with_reducible exact LeO.none _)
   | (with_reducible refine LeO.ite ?_ ?_)
   | (with_reducible refine LeO.bind ?_ (fun _ => ?_))
   | exact ih0 _ _ _ _
   | exact LeO.none _
   | refine LeO.ite ?_ ?_
   | refine LeO.bind ?_ (fun _ => ?_)
theorem slices_Index_string_string.mono : ∀ a0 a1 k, LeO (slices_Index_string_string.f k a0 a1) (slices_Index_string_string.f (k + 1) a0 a1) := by
 intro a0 a1 k
 have ih0 := slices_Index_string_string.mono_l k
 unfold slices_Index_string_string.f
 repeat' first
   | (with_reducible exact ih0 _ _ _ _)
   | (with_reducible exact LeO.refl _)
   | (with_reducible exact LeO.none _)
   | (with_reducible refine LeO.ite ?_ ?_)
   | (with_reducible refine LeO.bind ?_ (fun _ => ?_))
   | exact ih0 _ _ _ _
   | exact LeO.none _
   | refine LeO.ite ?_ ?_
   | refine LeO.bind ?_ (fun _ => ?_)
theorem slices_Index_string_string.calls (k : Nat) (A0 : Option Addr) (c0 : Nat) (l0 : List ByteArray) (a1 : ByteArray) (r : Int) (w : World) (gL : Kd.C Kd.string w A0 l0.length l0) (l7 : l0.length ≤ c0) (h : slices_Index_string_string.f k l0 a1 = some r) :
  Calls Try.prog 116 #[.slice A0 l0.length c0, .string a1] w fun e w' => e = .returned (.int .i64 r) ∧ Drawn0 w w' := by
 obtain ⟨hL, wE⟩ := mZ2 gL l7
 clear gL l7
 unfold slices_Index_string_string.f at h
 have H := h
 clear h
 have H' := am H
 repeat clear H
 go_enter Try.func116, Try.ntmps116
 go_wp2
 go_loopg [8] k (fun kq v8 w' => ∃ (qO : Int), v8 = .int .i64 qO ∧ Aside0 (slices_Index_string_string.l0 kq l0 a1 (l0.length : Int) qO = some r) ∧ Aside0 (kq ≤ k) ∧ Drawn0 w w')
 case atStart => exact ⟨(0), aQ, H', ⟨Nat.le_refl _⟩, cG⟩
 clear H'
 obtain ⟨qO, rfl, HA, HK1, ⟨m1, rfl⟩⟩ := hrel
 cases gk with
 | zero => exact absurd HA.out (by simp [slices_Index_string_string.l0])
 | succ k1 =>
  have H := HA.out
  clear HA
  simp only [slices_Index_string_string.l0] at H
  refine ic H ?_ ?_ <;> clear H <;> intro pG H
  ·obtain ⟨jE, H⟩ := cN H
   obtain ⟨pH, H⟩ := cN H
   refine iq H ?_ ?_ <;> clear H <;> intro c6 sC EQ H
   ·obtain rfl := Option.some.inj H
    repeat clear H
    obtain ⟨dS, eY, e0, kZ, l5⟩ := aS hL b0 qO
    cases eY
    go_wp2
    go_ret
    exact ⟨by first | rfl | (simp; done) | (simp [*]; done), cG⟩
   ·have H' := am H
    repeat clear H
    obtain ⟨dS, eY, e0, kZ, l5⟩ := aS hL b0 qO
    cases eY
    go_wp2
    go_roundg k1
    case measure => have := HK1.out; omega
    case rel => exact ⟨(wrap64 (qO + 1)), aQ, H', ⟨by have := HK1.out; omega⟩, cG⟩
  ·obtain rfl := Option.some.inj H
   repeat clear H
   go_wp2
   go_ret
   exact ⟨by first | rfl | (simp; done) | (simp [*]; done), cG⟩
def slices_Contains_string_string.f (k : Nat) (l0 : List ByteArray) (a1 : ByteArray) : Option (Bool) := (slices_Index_string_string.f k l0 a1).bind fun a => (some (decide (a ≥ 0)))
theorem slices_Contains_string_string.mono : ∀ a0 a1 k, LeO (slices_Contains_string_string.f k a0 a1) (slices_Contains_string_string.f (k + 1) a0 a1) := by
 intro a0 a1 k
 unfold slices_Contains_string_string.f
 repeat' first
   | (with_reducible exact slices_Index_string_string.mono _ _ _)
   | (with_reducible exact LeO.refl _)
   | (with_reducible exact LeO.none _)
   | (with_reducible refine LeO.ite ?_ ?_)
   | (with_reducible refine LeO.bind ?_ (fun _ => ?_))
   | exact slices_Index_string_string.mono _ _ _
   | exact LeO.none _
   | refine LeO.ite ?_ ?_
   | refine LeO.bind ?_ (fun _ => ?_)
theorem slices_Contains_string_string.calls (k : Nat) (A0 : Option Addr) (c0 : Nat) (l0 : List ByteArray) (a1 : ByteArray) (r : Bool) (w : World) (gL : Kd.C Kd.string w A0 l0.length l0) (l7 : l0.length ≤ c0) (h : slices_Contains_string_string.f k l0 a1 = some r) :
  Calls Try.prog 81 #[.slice A0 l0.length c0, .string a1] w fun e w' => e = .returned (.bool r) ∧ Drawn0 w w' := by
 obtain ⟨hL, wE⟩ := mZ2 gL l7
 clear gL l7
 unfold slices_Contains_string_string.f at h
 have H := h
 clear h
 obtain ⟨eJ, A3, H⟩ := bd H
 obtain rfl := Option.some.inj H
 repeat clear H
 go_enter Try.func81, Try.ntmps81
 go_wp2_with (first | ((with_reducible refine gC 116 ?_); refine cQ (some 7) Try.func116 (slices_Index_string_string.calls k _ _ l0 a1 eJ _ (pC hL.1) wE.1 A3.out) ?_; rintro w' ⟨nd, rfl⟩))
 go_ret
 exact ⟨by first | rfl | (simp; done) | (simp [*]; done), cG⟩
def impl_of.l0 : Nat → List ByteArray → List ByteArray → List ByteArray → Int → Int → Option (Bool)
 | 0, _, _, _, _, _ => none
 | k + 1, c, d, b, e, a => if a < e then (if 0 ≤ a then (if a < (b.length : Int) then ((slices_Contains_string_string.f k d (rdOf ByteArray.empty b a)).bind fun g => (if g = true then (if a > 0 then (if 0 ≤ (wrap64 (a - 1)) then (if (wrap64 (a - 1)) < (c.length : Int) then (if ((Op.bytesLess ((rdOf ByteArray.empty c (wrap64 (a - 1))).toList) ((rdOf ByteArray.empty b a).toList)) = true) then (impl_of.l0 k c d b e (wrap64 (a + 1))) else (some false)) else (none)) else (none)) else (impl_of.l0 k c d b e (wrap64 (a + 1)))) else (some false))) else (none)) else (none)) else (some true)
def impl_of.f (k : Nat) (l0 : List ByteArray) (l1 : List ByteArray) : Option (Bool) := impl_of.l0 k l0 l1 l0 (l0.length : Int) 0
theorem impl_of.calls (k : Nat) (A0 : Option Addr) (c0 : Nat) (l0 : List ByteArray) (A1 : Option Addr) (c1 : Nat) (l1 : List ByteArray) (r : Bool) (w : World) (gL : Kd.C Kd.string w A0 l0.length l0) (l7 : l0.length ≤ c0) (qQ : Kd.C Kd.string w A1 l1.length l1) (sW : l1.length ≤ c1) (h : impl_of.f k l0 l1 = some r) :
  Calls Try.prog 74 #[.slice A0 l0.length c0, .slice A1 l1.length c1] w fun e w' => e = .returned (.bool r) ∧ Drawn0 w w' := by
 obtain ⟨hL, wE⟩ := mZ2 gL l7
 obtain ⟨qX, sS⟩ := mZ2 qQ sW
 clear gL l7 qQ sW
 unfold impl_of.f at h
 have H := h
 clear h
 have H' := am H
 repeat clear H
 go_enter Try.func74, Try.ntmps74
 go_wp2
 go_loopg [9] k (fun kq v9 w' => ∃ (qB : Int), v9 = .int .i64 qB ∧ Aside0 (impl_of.l0 kq l0 l1 l0 (l0.length : Int) qB = some r) ∧ Aside0 (kq ≤ k) ∧ Drawn0 w w')
 case atStart => exact ⟨(0), aQ, H', ⟨Nat.le_refl _⟩, cG⟩
 clear H'
 try clear c1
 obtain ⟨qB, rfl, HA, HK1, ⟨m1, rfl⟩⟩ := hrel
 cases gk with
 | zero => exact absurd HA.out (by simp [impl_of.l0])
 | succ k1 =>
  have H := HA.out
  clear HA
  simp only [impl_of.l0] at H
  refine ic H ?_ ?_ <;> clear H <;> intro pG H
  obtain ⟨jE, H⟩ := cN H
  obtain ⟨pH, H⟩ := cN H
  obtain ⟨eB, A6, H⟩ := bd H
  refine tC H ?_ ?_ <;> clear H <;> intro c7 H <;> subst c7
  by_cases c8 : qB > 0
  rw [if_pos c8] at H
  have sD : decide (0 < qB) = true := decide_eq_true c8
  clear c8
  obtain ⟨ji9, hji9⟩ : ∃ j_ : Int, (wrap64 (qB - 1)) = j_ := ⟨_, rfl⟩
  replace H : (if 0 ≤ (ji9) then (if (ji9) < (l0.length : Int) then (if ((Op.bytesLess ((rdOf ByteArray.empty l0 (ji9)).toList) ((rdOf ByteArray.empty l0 qB).toList)) = true) then (impl_of.l0 k1 l0 l1 l0 (l0.length : Int) (wrap64 (qB + 1))) else (some false)) else (none)) else (none)) = some r := by first | (rw [hji9] at H; exact H) | (simp only [hji9] at H ⊢; exact H)
  (try rw [hji9] at A6)
  have hji9w : (IntKind.i64.wrap (qB - 1)) = ji9 := (i64_w _).trans hji9
  obtain ⟨n9, H⟩ := cN H
  obtain ⟨qH, H⟩ := cN H
  refine tC H ?_ ?_ <;> clear H <;> intro tD H
  have H' := am H
  repeat clear H
  obtain ⟨dS, eY, e0, kZ, l5⟩ := aS hL b0 qB
  cases eY
  have R3 := trivial
  rotate_left
  obtain rfl := Option.some.inj H
  repeat clear H
  obtain ⟨dS, eY, e0, kZ, l5⟩ := aS hL b0 qB
  cases eY
  have R3 := trivial
  rotate_left
  rw [if_neg c8] at H
  have sD : decide (0 < qB) = false := decide_eq_false c8
  clear c8
  have H' := am H
  repeat clear H
  obtain ⟨dS, eY, e0, kZ, l5⟩ := aS hL b0 qB
  cases eY
  have XY := trivial
  rotate_left
  obtain rfl := Option.some.inj H
  repeat clear H
  obtain ⟨dS, eY, e0, kZ, l5⟩ := aS hL b0 qB
  cases eY
  have XZ := trivial
  rotate_left
  obtain rfl := Option.some.inj H
  repeat clear H
  rotate_left
  all_goals
   go_wp2_with (first | ((with_reducible refine gC 81 ?_); revert R3; intro R3; refine cQ (some 16) Try.func81 (slices_Contains_string_string.calls k1 _ _ l1 (rdOf ByteArray.empty l0 qB) true _ (pC qX.1) sS.1 A6.out) ?_; rintro w' ⟨nd, rfl⟩; obtain ⟨fC, lF, g9, nR, nW⟩ := aS hL b0 (ji9); obtain rfl : dS = fC := (by injection lF)) | ((with_reducible refine gC 81 ?_); revert XY; intro XY; refine cQ (some 16) Try.func81 (slices_Contains_string_string.calls k1 _ _ l1 (rdOf ByteArray.empty l0 qB) true _ (pC qX.1) sS.1 A6.out) ?_; rintro w' ⟨nd, rfl⟩) | ((with_reducible refine gC 81 ?_); revert XZ; intro XZ; refine cQ (some 16) Try.func81 (slices_Contains_string_string.calls k1 _ _ l1 (rdOf ByteArray.empty l0 qB) false _ (pC qX.1) sS.1 A6.out) ?_; rintro w' ⟨nd, rfl⟩))
  ·go_roundg k1
   case measure => have := HK1.out; omega
   case rel => exact ⟨(wrap64 (qB + 1)), aQ, H', ⟨by have := HK1.out; omega⟩, cG⟩
  ·go_ret
   exact ⟨by first | rfl | (simp; done) | (simp only [← hji9] <;> (first | rfl | simp)) | (simp [*]; done), cG⟩
  ·go_roundg k1
   case measure => have := HK1.out; omega
   case rel => exact ⟨(wrap64 (qB + 1)), aQ, H', ⟨by have := HK1.out; omega⟩, cG⟩
  ·go_ret
   exact ⟨by first | rfl | (simp; done) | (simp [*]; done), cG⟩
  ·go_ret
   exact ⟨by first | rfl | (simp; done) | (simp [*]; done), cG⟩
def hasS (l : List ByteArray) (s : ByteArray) : Bool := l.any fun x => s.toList == x.toList
theorem wrap_succ {i n : Nat} (h : i < n) (hn : n ≤ 9223372036854775807) : wrap64 ((i : Int) + 1) = ((i + 1 : Nat) : Int) := by
 unfold wrap64; omega
theorem rdOf_nat {α : Type} (d : α) (l : List α) (i : Nat) (h : i < l.length) : rdOf d l (i : Int) = l[i] := by
 unfold rdOf; simp [List.getD_eq_getElem?_getD, h]
theorem index_go (l : List ByteArray) (s : ByteArray) (hl : l.length ≤ 9223372036854775807) : ∀ (d k i : Nat), l.length - i = d → i ≤ l.length → d < k →
  ∃ r, slices_Index_string_string.l0 k l s (l.length : Int) (i : Int) = some r ∧ decide (r ≥ 0) = (l.drop i).any fun x => s.toList == x.toList := by
 intro d
 induction d with
 | zero =>
  intro k i hd hi hk
  obtain ⟨k, rfl⟩ : ∃ m, k = m + 1 := ⟨k - 1, by omega⟩
  have : i = l.length := by omega
  subst this
  refine ⟨-1, ?_, by simp⟩
  simp only [slices_Index_string_string.l0]
  rw [if_neg (by omega)]
 | succ d ih =>
  intro k i hd hi hk
  obtain ⟨k, rfl⟩ : ∃ m, k = m + 1 := ⟨k - 1, by omega⟩
  have hlt : i < l.length := by omega
  rw [List.drop_eq_getElem_cons hlt]
  simp only [slices_Index_string_string.l0, List.any_cons]
  rw [if_pos (by omega), if_pos (by omega), if_pos (by omega), rdOf_nat _ _ _ hlt]
  by_cases e : s.toList = l[i].toList
  ·exact ⟨i, by rw [if_pos e], by simp [e]⟩
  ·obtain ⟨r, hr, h⟩ := ih k (i + 1) (by omega) (by omega) (by omega)
   refine ⟨r, ?_, by rw [h]; simp [e]⟩
   rw [if_neg e, wrap_succ hlt hl]
   exact hr
theorem contains_at (l : List ByteArray) (s : ByteArray) (hl : l.length ≤ 9223372036854775807) : slices_Contains_string_string.f (l.length + 1) l s = some (hasS l s) := by
 obtain ⟨r, hr, h⟩ := index_go l s hl l.length (l.length + 1) 0 (by omega) (by omega) (by omega)
 unfold slices_Contains_string_string.f slices_Index_string_string.f
 rw [show slices_Index_string_string.l0 (l.length + 1) l s (l.length : Int) 0 = some r from hr]
 simp only [Option.bind_some]
 rw [h]
 rfl
end Go.Proofs.Ytaofjgnhapnndaa.Q
