/- Texts that the row needs: words on memory and rows, the contracts of the functions it reaches, and the plain lemmas on what they compute. -/
import Derived.Test.YtaofjgnhapnndaaRows
import Derived.ProofKit
import Derived.Test.YtaofjgnhapnndaaXkoad
set_option maxHeartbeats 8000000
set_option maxRecDepth 100000
open Go.Proofs.YtaofjgnhapnndaaFko
namespace Go.Proofs.Ytaofjgnhapnndaa.Q
open Go.RowKit Go.Proofs.YtaofjgnhapnndaaW.PrintWords Go.Proofs.YtaofjgnhapnndaaW.PrintLast Go.Proofs.YtaofjgnhapnndaaW.PrintMore
set_option linter.unusedVariables false
set_option linter.unusedSimpArgs false
theorem uX : ∀ (w r : List Char), (∀ c ∈ w, c ≠ Char.ofNat 32) → wordsSigns (w ++ Char.ofNat 32 :: r) = w :: wordsSigns r
  | [], r, _ => rfl
  | c :: w, r, h => by
    have ih := uX w r (fun d hd => h d (List.mem_cons_of_mem _ hd))
    have hc : c ≠ Char.ofNat 32 := h c List.mem_cons_self
    rw [List.cons_append, wordsSigns.eq_3 _ _ (fun e => hc e), ih]
theorem aa {a b : Bool} (ha : a = true) (hb : b = true) : (a && b) = true := by rw [ha, hb]; rfl
noncomputable def tF : List Char := List.map Char.ofNat [104, 97, 114, 110, 101, 115, 115, 32, 49, 97, 97, 102, 48, 49, 57, 50, 55, 56, 49, 54, 50, 51, 99, 56, 99, 53, 100, 102, 97, 53, 55, 48, 102, 97, 55, 55, 101, 56, 54, 50, 99, 52, 54, 54, 101, 56, 50, 100, 51, 52, 51, 49, 98, 99, 97, 97, 50, 56, 55, 52, 54, 55, 53, 101, 54, 101, 51, 56, 53, 55, 99, 50, 32, 99, 117, 116, 32, 97, 116, 32, 108, 111, 111, 112, 46, 101, 120, 97, 109, 112, 108, 101, 47, 109, 97, 108, 116, 115, 104, 97, 114, 101, 47, 108, 97, 119, 115, 46, 70, 110, 69, 120, 97, 99, 116, 67, 111, 110, 115, 116, 97, 110, 116, 115, 32, 108, 111, 111, 112, 46, 101, 120, 97, 109, 112, 108, 101, 47, 109, 97, 108, 116, 115, 104, 97, 114, 101, 47, 108, 97, 119, 115, 46, 70, 110, 69, 120, 97, 99, 116, 83, 104, 97, 114, 101, 66, 111, 111, 107, 79, 107, 32, 108, 111, 111, 112, 46, 101, 120, 97, 109, 112, 108, 101, 47, 109, 97, 108, 116, 115, 104, 97, 114, 101, 47, 108, 97, 119, 115, 46, 70, 110, 69, 120, 97, 99, 116, 83, 104, 97, 114, 101, 87, 104, 111, 32, 108, 111, 111, 112, 46, 101, 120, 97, 109, 112, 108, 101, 47, 109, 97, 108, 116, 115, 104, 97, 114, 101, 47, 108, 97, 119, 115, 46, 70, 110, 69, 120, 97, 99, 116, 83, 104, 97, 114, 101, 83, 116, 117, 99, 107, 32, 108, 111, 111, 112, 46, 101, 120, 97, 109, 112, 108, 101, 47, 109, 97, 108, 116, 115, 104, 97, 114, 101, 47, 108, 97, 119, 115, 46, 70, 110, 69, 120, 97, 99, 116, 83, 104, 97, 114, 101, 70, 105, 116, 115, 32, 108, 111, 111, 112, 46, 101, 120, 97, 109, 112, 108, 101, 47, 109, 97, 108, 116, 115, 104, 97, 114, 101, 47, 108, 97, 119, 115, 46, 70, 110, 69, 120, 97, 99, 116, 83, 104, 97, 114, 101, 83, 97, 102, 101, 32, 108, 111, 111, 112, 46, 101, 120, 97, 109, 112, 108, 101, 47, 109, 97, 108, 116, 115, 104, 97, 114, 101, 47, 108, 97, 119, 115, 46, 70, 110, 69, 120, 97, 99, 116, 83, 104, 97, 114, 101, 87, 97, 105, 116, 115, 32, 108, 111, 111, 112, 46, 101, 120, 97, 109, 112, 108, 101, 47, 109, 97, 108, 116, 115, 104, 97, 114, 101, 47, 108, 97, 119, 115, 46, 70, 110, 69, 120, 97, 99, 116, 83, 104, 97, 114, 101, 77, 111, 118, 101, 115, 32, 108, 111, 111, 112, 46, 101, 120, 97, 109, 112, 108, 101, 47, 109, 97, 108, 116, 115, 104, 97, 114, 101, 47, 108, 97, 119, 115, 46, 70, 110, 69, 120, 97, 99, 116, 83, 104, 97, 114, 101, 79, 114, 100, 101, 114, 32, 108, 111, 111, 112, 46, 101, 120, 97, 109, 112, 108, 101, 47, 109, 97, 108, 116, 115, 104, 97, 114, 101, 47, 108, 97, 119, 115, 46, 70, 110, 69, 120, 97, 99, 116, 83, 104, 97, 114, 101, 76, 101, 97, 118, 101, 32, 108, 111, 111, 112, 46, 101, 120, 97, 109, 112, 108, 101, 47, 109, 97, 108, 116, 115, 104, 97, 114, 101, 47, 108, 97, 119, 115, 46, 70, 110, 69, 120, 97, 99, 116, 83, 104, 97, 114, 101, 76, 101, 115, 115, 32, 108, 111, 111, 112, 46, 101, 120, 97, 109, 112, 108, 101, 47, 109, 97, 108, 116, 115, 104, 97, 114, 101, 47, 108, 97, 119, 115, 46, 70, 110, 87, 104, 111, 32, 108, 111, 111, 112, 46, 101, 120, 97, 109, 112, 108, 101, 47, 109, 97, 108, 116, 115, 104, 97, 114, 101, 47, 108, 97, 119, 115, 46, 70, 110, 79, 114, 100, 101, 114, 32, 108, 111, 111, 112, 46, 101, 120, 97, 109, 112, 108, 101, 47, 109, 97, 108, 116, 115, 104, 97, 114, 101, 47, 108, 97, 119, 115, 46, 70, 110, 77, 111, 118, 101, 115, 32, 108, 111, 111, 112, 46, 101, 120, 97, 109, 112, 108, 101, 47, 109, 97, 108, 116, 115, 104, 97, 114, 101, 47, 108, 97, 119, 115, 46, 70, 110, 69, 120, 97, 99, 116, 83, 104, 97, 114, 101, 69, 110, 116, 101, 114, 32, 108, 111, 111, 112, 46, 101, 120, 97, 109, 112, 108, 101, 47, 109, 97, 108, 116, 115, 104, 97, 114, 101, 47, 108, 97, 119, 115, 46, 70, 110, 69, 120, 97, 99, 116, 83, 104, 97, 114, 101, 65, 115, 107, 32, 108, 111, 111, 112, 46, 101, 120, 97, 109, 112, 108, 101, 47, 109, 97, 108, 116, 115, 104, 97, 114, 101, 47, 108, 97, 119, 115, 46, 70, 110, 65, 115, 107, 32, 108, 111, 111, 112, 46, 101, 120, 97, 109, 112, 108, 101, 47, 109, 97, 108, 116, 115, 104, 97, 114, 101, 47, 108, 97, 119, 115, 46, 70, 110, 76, 101, 115, 115]
theorem Np : Try.prog.initOrder = String.ofList tF := by kernel_rfl
theorem Bc : Try.prog.initOrder.toList = tF := (congrArg String.toList Np).trans String.toList_ofList
noncomputable def GD : List Char := (tF.drop 8).take 64
theorem head_eq : tF = "harness".toList ++ Char.ofNat 32 :: (GD ++ Char.ofNat 32 :: ("cut".toList ++ Char.ofNat 32 :: tF.drop 77)) := by kernel_rfl
theorem V6 : (GD.all fun c => c != Char.ofNat 32) = true := by kernel_rfl
theorem V7 : isSumSigns GD = true := by kernel_rfl
theorem M7 : ∃ R, behindMainWord (wordsSigns Try.prog.initOrder.toList) = "cut".toList :: R := by
 refine ⟨wordsSigns (tF.drop 77), ?_⟩
 have h1 : ∀ c ∈ "harness".toList, c ≠ Char.ofNat 32 := by decide
 have h3 : ∀ c ∈ "cut".toList, c ≠ Char.ofNat 32 := by decide
 have h2 : ∀ c ∈ GD, c ≠ Char.ofNat 32 := fun c hc => by
   have := List.all_eq_true.1 V6 c hc
   simpa using this
 have e : wordsSigns Try.prog.initOrder.toList = "harness".toList :: GD :: "cut".toList :: wordsSigns (tF.drop 77) :=
   (congrArg wordsSigns (Bc.trans head_eq)).trans (by rw [uX _ _ h1, uX _ _ h2, uX _ _ h3])
 rw [e]
 generalize wordsSigns (tF.drop 77) = R
 unfold behindMainWord
 exact if_pos (by rw [V7, beq_self_eq_true]; rfl)
theorem Fe : "cut".toList = [Char.ofNat 99, Char.ofNat 117, Char.ofNat 116] := (String.toList_ofList : (String.ofList [Char.ofNat 99, Char.ofNat 117, Char.ofNat 116]).toList = _)
theorem l_gc : "gc".toList = [Char.ofNat 103, Char.ofNat 99] := (String.toList_ofList : (String.ofList [Char.ofNat 103, Char.ofNat 99]).toList = _)
theorem fw : "spec".toList = [Char.ofNat 115, Char.ofNat 112, Char.ofNat 101, Char.ofNat 99] := (String.toList_ofList : (String.ofList [Char.ofNat 115, Char.ofNat 112, Char.ofNat 101, Char.ofNat 99]).toList = _)
theorem SL : "carried".toList = [Char.ofNat 99, Char.ofNat 97, Char.ofNat 114, Char.ofNat 114, Char.ofNat 105, Char.ofNat 101, Char.ofNat 100] := (String.toList_ofList : (String.ofList [Char.ofNat 99, Char.ofNat 97, Char.ofNat 114, Char.ofNat 114, Char.ofNat 105, Char.ofNat 101, Char.ofNat 100]).toList = _)
theorem n_gc : ("cut".toList == "gc".toList) = false := by rw [Fe, l_gc]; decide
theorem Ng : ("cut".toList == "spec".toList) = false := by rw [Fe, fw]; decide
theorem Gt : ("cut".toList == "carried".toList) = false := by rw [Fe, SL]; decide
theorem xe : ("cut".toList == "cut".toList) = true := beq_self_eq_true _
theorem Az (R : List (List Char)) : (("cut".toList :: R).head? == some "carried".toList) = false := by
 rw [List.head?_cons, Fe, SL]; decide
theorem jq (R : List (List Char)) : (("cut".toList :: R).head? == some "cut".toList) = true := by rw [List.head?_cons]; exact beq_self_eq_true _
theorem SX (R : List (List Char)) : stripLifts liftWords ("cut".toList :: R) = ([], "cut".toList :: R) := by rfl
theorem VQ : Try.prog.laysLater = false := by kernel_rfl
theorem NQ : Try.prog.bearsReflect = false := by kernel_rfl
theorem UL : Try.prog.doorFits [] = true := by kernel_rfl
theorem Y4 (P : Program) (R : List (List Char)) (h : behindMainWord (wordsSigns P.initOrder.toList) = "cut".toList :: R) (h1 : P.laysLater = false) (h2 : P.bearsReflect = false) (h3 : P.doorFits [] = true) : P.mayEnter = true := by
 unfold Program.mayEnter
 rw [h]
 simp only [SX, h1, h2, h3, n_gc, Ng, Gt, jq]
 rfl
theorem V5 (P : Program) (R : List (List Char)) (h : behindMainWord (wordsSigns P.initOrder.toList) = "cut".toList :: R) : P.headLifts = [] := by
 unfold Program.headLifts
 rw [h, SX]
 exact ite_self _
theorem QN (P : Program) (R : List (List Char)) (h : behindMainWord (wordsSigns P.initOrder.toList) = "cut".toList :: R) : P.liftsFinal = false := by
 unfold Program.liftsFinal
 rw [V5 P R h, h]
 simp only [Az]
 rfl
theorem Ta (P : Program) (R : List (List Char)) (h : behindMainWord (wordsSigns P.initOrder.toList) = "cut".toList :: R) : P.make = some .cut := by
 unfold Program.make
 rw [h]
 simp only [n_gc, Ng, xe]
 rfl
theorem VR : Try.prog.mayEnter = true := by
 obtain ⟨R, h⟩ := M7
 exact Y4 _ R h VQ NQ UL
theorem QM : Try.prog.liftsFinal = false := by
 obtain ⟨R, h⟩ := M7
 exact QN _ R h
theorem Nf : Try.prog.make = some .cut := by
 obtain ⟨R, h⟩ := M7
 exact Ta _ R h
def vQ.f (a0 : Int) (a1 : Int) (a2 : Int) : Option (Bool) := if a0 ≥ a1 then (some (decide (a0 ≤ a2))) else (some false)
theorem vQ.calls (a0 : Int) (a1 : Int) (a2 : Int) (r : Bool) (w : World) (h : vQ.f a0 a1 a2 = some r) :
  Calls Try.prog 111 #[.int .i64 a0, .int .i64 a1, .int .i64 a2] w fun e w' => e = .returned (.bool r) ∧ kP w w' := by
 unfold vQ.f at h
 have H := h
 clear h
 by_cases c4 : a0 ≥ a1
 ·rw [if_pos c4] at H
  have vT : decide (a1 ≤ a0) = true := decide_eq_true c4
  clear c4
  obtain rfl := Option.some.inj H
  repeat clear H
  go_enter Try.func111, Try.ntmps111
  go_wp2
  go_ret
  exact ⟨by first | rfl | (simp; done) | (simp [*]; done), gN⟩
 rw [if_neg c4] at H
 have vT : decide (a1 ≤ a0) = false := decide_eq_false c4
 clear c4
 obtain rfl := Option.some.inj H
 repeat clear H
 go_enter Try.func111, Try.ntmps111
 go_wp2
 go_ret
 exact ⟨by first | rfl | (simp; done) | (simp [*]; done), gN⟩
def d9.l0 : Nat → ByteArray → Int → Option (Bool)
 | 0, _, _ => none
 | k + 1, b, a => if a < (b.size : Int) then (if 0 ≤ a then (if (bt b a) ≥ 97 then (if (bt b a) ≤ 122 then (d9.l0 k b (wrap64 (a + 1))) else (if (bt b a) ≥ 48 then (if (bt b a) ≤ 57 then (d9.l0 k b (wrap64 (a + 1))) else (if ((bt b a) = 45) then (d9.l0 k b (wrap64 (a + 1))) else (some false))) else (if ((bt b a) = 45) then (d9.l0 k b (wrap64 (a + 1))) else (some false)))) else (if (bt b a) ≥ 48 then (if (bt b a) ≤ 57 then (d9.l0 k b (wrap64 (a + 1))) else (if ((bt b a) = 45) then (d9.l0 k b (wrap64 (a + 1))) else (some false))) else (if ((bt b a) = 45) then (d9.l0 k b (wrap64 (a + 1))) else (some false)))) else (none)) else (some true)
def d9.f (k : Nat) (a0 : ByteArray) : Option (Bool) := (vQ.f (a0.size : Int) 1 8).bind fun a => (if a = true then (d9.l0 k a0 0) else (some false))
theorem d9.calls (k : Nat) (a0 : ByteArray) (r : Bool) (w : World) (h : d9.f k a0 = some r) :
  Calls Try.prog 70 #[.string a0] w fun e w' => e = .returned (.bool r) ∧ kP w w' := by
 unfold d9.f at h
 have H := h
 clear h
 obtain ⟨sR, A2, H⟩ := bd H
 refine tC H ?_ ?_ <;> clear H <;> intro c3 H <;> subst c3
 ·have H' := am H
  repeat clear H
  go_enter Try.func70, Try.ntmps70
  go_wp2_with (first | ((with_reducible refine gC 111 ?_); refine cQ (some 7) Try.func111 (vQ.calls (a0.size : Int) 1 8 true _ A2.out) ?_; rintro w' ⟨nd, rfl⟩))
  go_loopg [3] k (fun kq v3 w' => ∃ (lR : Int), v3 = .int .i64 lR ∧ aA (d9.l0 kq a0 lR = some r) ∧ aA (kq ≤ k) ∧ kP w w')
  case atStart => exact ⟨(0), dH, H', ⟨Nat.le_refl _⟩, gN⟩
  clear H'
  try clear c3
  obtain ⟨lR, rfl, HA, HK1, ⟨m1, rfl⟩⟩ := hrel
  cases gk with
  | zero => exact absurd HA.out (by simp [d9.l0])
  | succ k1 =>
   have H := HA.out
   clear HA
   simp only [d9.l0] at H
   refine ic H ?_ ?_ <;> clear H <;> intro vT H
   ·obtain ⟨EO, H⟩ := cN H
    by_cases c7 : (bt a0 lR) ≥ 97
    ·rw [if_pos c7] at H
     have UB : decide (97 ≤ (bt a0 lR)) = true := decide_eq_true c7
     clear c7
     refine ic H ?_ ?_ <;> clear H <;> intro HY H
     ·have H' := am H
      repeat clear H
      obtain ⟨Pq, p6, q6⟩ := aB a0 lR
      go_wp2
      go_roundg k1
      case measure => have := HK1.out; omega
      case rel => exact ⟨(wrap64 (lR + 1)), dH, H', ⟨by have := HK1.out; omega⟩, gN⟩
     ·by_cases c9 : (bt a0 lR) ≥ 48
      ·rw [if_pos c9] at H
       have LY : decide (48 ≤ (bt a0 lR)) = true := decide_eq_true c9
       clear c9
       refine ic H ?_ ?_ <;> clear H <;> intro IC H
       ·have H' := am H
        repeat clear H
        obtain ⟨Pq, p6, q6⟩ := aB a0 lR
        go_wp2
        go_roundg k1
        case measure => have := HK1.out; omega
        case rel => exact ⟨(wrap64 (lR + 1)), dH, H', ⟨by have := HK1.out; omega⟩, gN⟩
       ·refine iq H ?_ ?_ <;> clear H <;> intro Hv ID qr H
        ·have H' := am H
         repeat clear H
         obtain ⟨Pq, p6, q6⟩ := aB a0 lR
         go_wp2
         go_roundg k1
         case measure => have := HK1.out; omega
         case rel => exact ⟨(wrap64 (lR + 1)), dH, H', ⟨by have := HK1.out; omega⟩, gN⟩
        ·obtain rfl := Option.some.inj H
         repeat clear H
         obtain ⟨Pq, p6, q6⟩ := aB a0 lR
         go_wp2
         go_ret
         exact ⟨by first | rfl | (simp; done) | (simp [*]; done), gN⟩
      ·rw [if_neg c9] at H
       have LY : decide (48 ≤ (bt a0 lR)) = false := decide_eq_false c9
       clear c9
       refine iq H ?_ ?_ <;> clear H <;> intro Rk MU Kw H
       ·have H' := am H
        repeat clear H
        obtain ⟨Pq, p6, q6⟩ := aB a0 lR
        go_wp2
        go_roundg k1
        case measure => have := HK1.out; omega
        case rel => exact ⟨(wrap64 (lR + 1)), dH, H', ⟨by have := HK1.out; omega⟩, gN⟩
       ·obtain rfl := Option.some.inj H
        repeat clear H
        obtain ⟨Pq, p6, q6⟩ := aB a0 lR
        go_wp2
        go_ret
        exact ⟨by first | rfl | (simp; done) | (simp [*]; done), gN⟩
    ·rw [if_neg c7] at H
     have UB : decide (97 ≤ (bt a0 lR)) = false := decide_eq_false c7
     clear c7
     by_cases ZW : (bt a0 lR) ≥ 48
     ·rw [if_pos ZW] at H
      have MV : decide (48 ≤ (bt a0 lR)) = true := decide_eq_true ZW
      clear ZW
      refine ic H ?_ ?_ <;> clear H <;> intro S0 H
      ·have H' := am H
       repeat clear H
       obtain ⟨Pq, p6, q6⟩ := aB a0 lR
       go_wp2
       go_roundg k1
       case measure => have := HK1.out; omega
       case rel => exact ⟨(wrap64 (lR + 1)), dH, H', ⟨by have := HK1.out; omega⟩, gN⟩
      ·refine iq H ?_ ?_ <;> clear H <;> intro az X8 aEN H
       ·have H' := am H
        repeat clear H
        obtain ⟨Pq, p6, q6⟩ := aB a0 lR
        go_wp2
        go_roundg k1
        case measure => have := HK1.out; omega
        case rel => exact ⟨(wrap64 (lR + 1)), dH, H', ⟨by have := HK1.out; omega⟩, gN⟩
       ·obtain rfl := Option.some.inj H
        repeat clear H
        obtain ⟨Pq, p6, q6⟩ := aB a0 lR
        go_wp2
        go_ret
        exact ⟨by first | rfl | (simp; done) | (simp [*]; done), gN⟩
     ·rw [if_neg ZW] at H
      have MV : decide (48 ≤ (bt a0 lR)) = false := decide_eq_false ZW
      clear ZW
      refine iq H ?_ ?_ <;> clear H <;> intro U9 IE Kz H
      ·have H' := am H
       repeat clear H
       obtain ⟨Pq, p6, q6⟩ := aB a0 lR
       go_wp2
       go_roundg k1
       case measure => have := HK1.out; omega
       case rel => exact ⟨(wrap64 (lR + 1)), dH, H', ⟨by have := HK1.out; omega⟩, gN⟩
      ·obtain rfl := Option.some.inj H
       repeat clear H
       obtain ⟨Pq, p6, q6⟩ := aB a0 lR
       go_wp2
       go_ret
       exact ⟨by first | rfl | (simp; done) | (simp [*]; done), gN⟩
   ·obtain rfl := Option.some.inj H
    repeat clear H
    go_wp2
    go_ret
    exact ⟨by first | rfl | (simp; done) | (simp [*]; done), gN⟩
 obtain rfl := Option.some.inj H
 repeat clear H
 go_enter Try.func70, Try.ntmps70
 go_wp2_with (first | ((with_reducible refine gC 111 ?_); refine cQ (some 7) Try.func111 (vQ.calls (a0.size : Int) 1 8 false _ A2.out) ?_; rintro w' ⟨nd, rfl⟩))
 go_ret
 exact ⟨by first | rfl | (simp; done) | (simp [*]; done), gN⟩
def fH.l0 : Nat → List ByteArray → Int → Option (Bool)
 | 0, _, _ => none
 | k + 1, b, a => if a < (b.length : Int) then (if 0 ≤ a then ((d9.f k (rdOf ByteArray.empty b a)).bind fun c => (if c = true then (if a > 0 then (if 0 ≤ (wrap64 (a - 1)) then (if (wrap64 (a - 1)) < (b.length : Int) then (if ((Op.bytesLess ((rdOf ByteArray.empty b (wrap64 (a - 1))).toList) ((rdOf ByteArray.empty b a).toList)) = true) then (fH.l0 k b (wrap64 (a + 1))) else (some false)) else (none)) else (none)) else (fH.l0 k b (wrap64 (a + 1)))) else (some false))) else (none)) else (some true)
def fH.f (k : Nat) (l0 : List ByteArray) : Option (Bool) := if (l0.length : Int) > 8 then (some false) else (fH.l0 k l0 0)
theorem fH.calls (k : Nat) (A0 : Option Addr) (c0 : Nat) (l0 : List ByteArray) (r : Bool) (w : World) (r5 : Kd.C Kd.string w A0 l0.length l0) (xK : l0.length ≤ c0) (h : fH.f k l0 = some r) :
  Calls Try.prog 69 #[.slice A0 l0.length c0] w fun e w' => e = .returned (.bool r) ∧ kP w w' := by
 obtain ⟨rD, O0⟩ := mZ2 r5 xK
 clear r5 xK
 unfold fH.f at h
 have H := h
 clear h
 by_cases c2 : (l0.length : Int) > 8
 ·rw [if_pos c2] at H
  have Rm : decide (8 < (l0.length : Int)) = true := decide_eq_true c2
  have Rn : decide (8 < l0.length) = true := decide_eq_true (by omega)
  clear c2
  obtain rfl := Option.some.inj H
  repeat clear H
  go_enter Try.func69, Try.ntmps69
  go_wp2
  repeat (go_quiet (fail); try go_wp2)
  go_ret
  exact ⟨by first | rfl | (simp; done) | (simp [*]; done), gN⟩
 rw [if_neg c2] at H
 have Rm : decide (8 < (l0.length : Int)) = false := decide_eq_false c2
 have Rn : decide (8 < l0.length) = false := decide_eq_false (by omega)
 clear c2
 have H' := am H
 repeat clear H
 go_enter Try.func69, Try.ntmps69
 go_wp2
 repeat (go_quiet (fail); try go_wp2)
 go_loopg [3] k (fun kq v3 w' => ∃ (lR : Int), v3 = .int .i64 lR ∧ aA (fH.l0 kq l0 lR = some r) ∧ aA (kq ≤ k) ∧ kP w w')
 case atStart => exact ⟨(0), dH, H', ⟨Nat.le_refl _⟩, gN⟩
 clear H'
 try clear c2
 try clear Rm
 try clear Rn
 obtain ⟨lR, rfl, HA, HK1, ⟨m1, rfl⟩⟩ := hrel
 cases gk with
 | zero => exact absurd HA.out (by simp [fH.l0])
 | succ k1 =>
  have H := HA.out
  clear HA
  simp only [fH.l0] at H
  refine ic H ?_ ?_ <;> clear H <;> intro BG H
  obtain ⟨vT, H⟩ := cN H
  obtain ⟨kQ, A5, H⟩ := bd H
  refine tC H ?_ ?_ <;> clear H <;> intro c6 H <;> subst c6
  by_cases c7 : lR > 0
  rw [if_pos c7] at H
  have UB : decide (0 < lR) = true := decide_eq_true c7
  clear c7
  obtain ⟨ji8, hji8⟩ : ∃ j_ : Int, (wrap64 (lR - 1)) = j_ := ⟨_, rfl⟩
  replace H : (if 0 ≤ (ji8) then (if (ji8) < (l0.length : Int) then (if ((Op.bytesLess ((rdOf ByteArray.empty l0 (ji8)).toList) ((rdOf ByteArray.empty l0 lR).toList)) = true) then (fH.l0 k1 l0 (wrap64 (lR + 1))) else (some false)) else (none)) else (none)) = some r := by first | (rw [hji8] at H; exact H) | (simp only [hji8] at H ⊢; exact H)
  (try rw [hji8] at A5)
  have hji8w : (IntKind.i64.wrap (lR - 1)) = ji8 := (mV _).trans hji8
  obtain ⟨LY, H⟩ := cN H
  obtain ⟨IC, H⟩ := cN H
  refine tC H ?_ ?_ <;> clear H <;> intro ID H
  have H' := am H
  repeat clear H
  obtain ⟨jW, nV, kZ, wL, wN⟩ := aS rD b0 lR
  cases nV
  have M0_ := trivial
  rotate_left
  obtain rfl := Option.some.inj H
  repeat clear H
  obtain ⟨jW, nV, kZ, wL, wN⟩ := aS rD b0 lR
  cases nV
  have M0_ := trivial
  rotate_left
  rw [if_neg c7] at H
  have UB : decide (0 < lR) = false := decide_eq_false c7
  clear c7
  have H' := am H
  repeat clear H
  obtain ⟨jW, nV, kZ, wL, wN⟩ := aS rD b0 lR
  cases nV
  have M1_ := trivial
  rotate_left
  obtain rfl := Option.some.inj H
  repeat clear H
  obtain ⟨jW, nV, kZ, wL, wN⟩ := aS rD b0 lR
  cases nV
  have M2_ := trivial
  rotate_left
  obtain rfl := Option.some.inj H
  repeat clear H
  rotate_left
  all_goals
   go_wp2_with (first | (go_at_call 70; revert M0_; intro M0_; revert A5; intro A5; refine cM (d9.calls k1 (rdOf ByteArray.empty l0 lR) true _ A5.out) ?_; rintro w' ⟨nd, rfl⟩; (try exact dR); obtain ⟨e4, oG, j5, uK, uL⟩ := aS rD b0 (ji8); obtain rfl : jW = e4 := (by injection oG); obtain ⟨lW, vA, rO, JC, JE⟩ := aS rD b0 lR; obtain rfl : jW = lW := (by injection vA); clear A5) | (go_at_call 70; revert M1_; intro M1_; revert A5; intro A5; refine cM (d9.calls k1 (rdOf ByteArray.empty l0 lR) true _ A5.out) ?_; rintro w' ⟨nd, rfl⟩; (try exact dR); clear A5) | (go_at_call 70; revert M2_; intro M2_; revert A5; intro A5; refine cM (d9.calls k1 (rdOf ByteArray.empty l0 lR) false _ A5.out) ?_; rintro w' ⟨nd, rfl⟩; (try exact dR); clear A5))
  ·repeat (go_quiet (first | (go_at_call 70; refine cM (d9.calls k1 (rdOf ByteArray.empty l0 lR) true _ A5.out) ?_; rintro w' ⟨nd, rfl⟩; (try exact dR); obtain ⟨e4, oG, j5, uK, uL⟩ := aS rD b0 (ji8); obtain rfl : jW = e4 := (by injection oG); obtain ⟨lW, vA, rO, JC, JE⟩ := aS rD b0 lR; obtain rfl : jW = lW := (by injection vA))); try go_wp2_with (first | (go_at_call 70; refine cM (d9.calls k1 (rdOf ByteArray.empty l0 lR) true _ A5.out) ?_; rintro w' ⟨nd, rfl⟩; (try exact dR); obtain ⟨e4, oG, j5, uK, uL⟩ := aS rD b0 (ji8); obtain rfl : jW = e4 := (by injection oG); obtain ⟨lW, vA, rO, JC, JE⟩ := aS rD b0 lR; obtain rfl : jW = lW := (by injection vA))))
   go_roundg k1
   case measure => have := HK1.out; omega
   case rel => exact ⟨(wrap64 (lR + 1)), dH, H', ⟨by have := HK1.out; omega⟩, gN⟩
  ·repeat (go_quiet (first | (go_at_call 70; refine cM (d9.calls k1 (rdOf ByteArray.empty l0 lR) true _ A5.out) ?_; rintro w' ⟨nd, rfl⟩; (try exact dR); obtain ⟨e4, oG, j5, uK, uL⟩ := aS rD b0 (ji8); obtain rfl : jW = e4 := (by injection oG); obtain ⟨lW, vA, rO, JC, JE⟩ := aS rD b0 lR; obtain rfl : jW = lW := (by injection vA))); try go_wp2_with (first | (go_at_call 70; refine cM (d9.calls k1 (rdOf ByteArray.empty l0 lR) true _ A5.out) ?_; rintro w' ⟨nd, rfl⟩; (try exact dR); obtain ⟨e4, oG, j5, uK, uL⟩ := aS rD b0 (ji8); obtain rfl : jW = e4 := (by injection oG); obtain ⟨lW, vA, rO, JC, JE⟩ := aS rD b0 lR; obtain rfl : jW = lW := (by injection vA))))
   go_ret
   exact ⟨by first | rfl | (simp; done) | (simp only [← hji8] <;> (first | rfl | simp)) | (simp [*]; done), gN⟩
  ·repeat (go_quiet (first | (go_at_call 70; refine cM (d9.calls k1 (rdOf ByteArray.empty l0 lR) true _ A5.out) ?_; rintro w' ⟨nd, rfl⟩; (try exact dR))); try go_wp2_with (first | (go_at_call 70; refine cM (d9.calls k1 (rdOf ByteArray.empty l0 lR) true _ A5.out) ?_; rintro w' ⟨nd, rfl⟩; (try exact dR))))
   go_roundg k1
   case measure => have := HK1.out; omega
   case rel => exact ⟨(wrap64 (lR + 1)), dH, H', ⟨by have := HK1.out; omega⟩, gN⟩
  ·repeat (go_quiet (first | (go_at_call 70; refine cM (d9.calls k1 (rdOf ByteArray.empty l0 lR) false _ A5.out) ?_; rintro w' ⟨nd, rfl⟩; (try exact dR))); try go_wp2_with (first | (go_at_call 70; refine cM (d9.calls k1 (rdOf ByteArray.empty l0 lR) false _ A5.out) ?_; rintro w' ⟨nd, rfl⟩; (try exact dR))))
   go_ret
   exact ⟨by first | rfl | (simp; done) | (simp [*]; done), gN⟩
  ·repeat (go_quiet (fail); try go_wp2)
   go_ret
   exact ⟨by first | rfl | (simp; done) | (simp [*]; done), gN⟩
def dK.l0 : Nat → List ByteArray → ByteArray → Int → Option (Bool)
 | 0, _, _, _ => none
 | k + 1, b, c, a => if a < (b.length : Int) then (if 0 ≤ a then (if (rdOf ByteArray.empty b a).toList = c.toList then (some true) else (dK.l0 k b c (wrap64 (a + 1)))) else (none)) else (some false)
def dK.f (k : Nat) (l0 : List ByteArray) (a1 : ByteArray) : Option (Bool) := dK.l0 k l0 a1 0
theorem dK.calls (k : Nat) (A0 : Option Addr) (c0 : Nat) (l0 : List ByteArray) (a1 : ByteArray) (r : Bool) (w : World) (r5 : Kd.C Kd.string w A0 l0.length l0) (xK : l0.length ≤ c0) (h : dK.f k l0 a1 = some r) :
  Calls Try.prog 80 #[.slice A0 l0.length c0, .string a1] w fun e w' => e = .returned (.bool r) ∧ kP w w' := by
 obtain ⟨rD, O0⟩ := mZ2 r5 xK
 clear r5 xK
 unfold dK.f at h
 have H := h
 clear h
 have H' := am H
 repeat clear H
 go_enter Try.func80, Try.ntmps80
 go_wp2
 go_loopg [5] k (fun kq v5 w' => ∃ (bV : Int), v5 = .int .i64 bV ∧ aA (dK.l0 kq l0 a1 bV = some r) ∧ aA (kq ≤ k) ∧ kP w w')
 case atStart => exact ⟨(0), dH, H', ⟨Nat.le_refl _⟩, gN⟩
 clear H'
 obtain ⟨bV, rfl, HA, HK1, ⟨m1, rfl⟩⟩ := hrel
 cases gk with
 | zero => exact absurd HA.out (by simp [dK.l0])
 | succ k1 =>
  have H := HA.out
  clear HA
  simp only [dK.l0] at H
  refine ic H ?_ ?_ <;> clear H <;> intro BG H
  ·obtain ⟨vT, H⟩ := cN H
   refine iq H ?_ ?_ <;> clear H <;> intro c5 EO a6I H
   ·obtain rfl := Option.some.inj H
    repeat clear H
    obtain ⟨jW, nV, kZ, wL, wN⟩ := aS rD b0 bV
    cases nV
    go_wp2
    go_ret
    exact ⟨by first | rfl | (simp; done) | (simp [*]; done), gN⟩
   ·have H' := am H
    repeat clear H
    obtain ⟨jW, nV, kZ, wL, wN⟩ := aS rD b0 bV
    cases nV
    go_wp2
    go_roundg k1
    case measure => have := HK1.out; omega
    case rel => exact ⟨(wrap64 (bV + 1)), dH, H', ⟨by have := HK1.out; omega⟩, gN⟩
  ·obtain rfl := Option.some.inj H
   repeat clear H
   go_wp2
   go_ret
   exact ⟨by first | rfl | (simp; done) | (simp [*]; done), gN⟩
def dC.l0 : Nat → List ByteArray → List ByteArray → Int → Option (Bool)
 | 0, _, _, _ => none
 | k + 1, b, c, a => if a < (b.length : Int) then (if 0 ≤ a then ((dK.f k c (rdOf ByteArray.empty b a)).bind fun d => (if d = true then (if a > 0 then (if 0 ≤ (wrap64 (a - 1)) then (if (wrap64 (a - 1)) < (b.length : Int) then (if ((Op.bytesLess ((rdOf ByteArray.empty b (wrap64 (a - 1))).toList) ((rdOf ByteArray.empty b a).toList)) = true) then (dC.l0 k b c (wrap64 (a + 1))) else (some false)) else (none)) else (none)) else (dC.l0 k b c (wrap64 (a + 1)))) else (some false))) else (none)) else (some true)
def dC.f (k : Nat) (l0 : List ByteArray) (l1 : List ByteArray) : Option (Bool) := dC.l0 k l0 l1 0
theorem dC.calls (k : Nat) (A0 : Option Addr) (c0 : Nat) (l0 : List ByteArray) (A1 : Option Addr) (c1 : Nat) (l1 : List ByteArray) (r : Bool) (w : World) (r5 : Kd.C Kd.string w A0 l0.length l0) (xK : l0.length ≤ c0) (BF : Kd.C Kd.string w A1 l1.length l1) (DK : l1.length ≤ c1) (h : dC.f k l0 l1 = some r) :
  Calls Try.prog 71 #[.slice A0 l0.length c0, .slice A1 l1.length c1] w fun e w' => e = .returned (.bool r) ∧ kP w w' := by
 obtain ⟨rD, O0⟩ := mZ2 r5 xK
 obtain ⟨tO, zK⟩ := mZ2 BF DK
 clear r5 xK BF DK
 unfold dC.f at h
 have H := h
 clear h
 have H' := am H
 repeat clear H
 go_enter Try.func71, Try.ntmps71
 go_wp2
 repeat (go_quiet (fail); try go_wp2)
 go_loopg [5] k (fun kq v5 w' => ∃ (bV : Int), v5 = .int .i64 bV ∧ aA (dC.l0 kq l0 l1 bV = some r) ∧ aA (kq ≤ k) ∧ kP w w')
 case atStart => exact ⟨(0), dH, H', ⟨Nat.le_refl _⟩, gN⟩
 clear H'
 try clear c1
 obtain ⟨bV, rfl, HA, HK1, ⟨m1, rfl⟩⟩ := hrel
 cases gk with
 | zero => exact absurd HA.out (by simp [dC.l0])
 | succ k1 =>
  have H := HA.out
  clear HA
  simp only [dC.l0] at H
  refine ic H ?_ ?_ <;> clear H <;> intro BG H
  obtain ⟨vT, H⟩ := cN H
  obtain ⟨kQ, A5, H⟩ := bd H
  refine tC H ?_ ?_ <;> clear H <;> intro c6 H <;> subst c6
  by_cases c7 : bV > 0
  rw [if_pos c7] at H
  have UB : decide (0 < bV) = true := decide_eq_true c7
  clear c7
  obtain ⟨ji8, hji8⟩ : ∃ j_ : Int, (wrap64 (bV - 1)) = j_ := ⟨_, rfl⟩
  replace H : (if 0 ≤ (ji8) then (if (ji8) < (l0.length : Int) then (if ((Op.bytesLess ((rdOf ByteArray.empty l0 (ji8)).toList) ((rdOf ByteArray.empty l0 bV).toList)) = true) then (dC.l0 k1 l0 l1 (wrap64 (bV + 1))) else (some false)) else (none)) else (none)) = some r := by first | (rw [hji8] at H; exact H) | (simp only [hji8] at H ⊢; exact H)
  (try rw [hji8] at A5)
  have hji8w : (IntKind.i64.wrap (bV - 1)) = ji8 := (mV _).trans hji8
  obtain ⟨LY, H⟩ := cN H
  obtain ⟨IC, H⟩ := cN H
  refine tC H ?_ ?_ <;> clear H <;> intro ID H
  have H' := am H
  repeat clear H
  obtain ⟨jW, nV, kZ, wL, wN⟩ := aS rD b0 bV
  cases nV
  have M6_ := trivial
  rotate_left
  obtain rfl := Option.some.inj H
  repeat clear H
  obtain ⟨jW, nV, kZ, wL, wN⟩ := aS rD b0 bV
  cases nV
  have M6_ := trivial
  rotate_left
  rw [if_neg c7] at H
  have UB : decide (0 < bV) = false := decide_eq_false c7
  clear c7
  have H' := am H
  repeat clear H
  obtain ⟨jW, nV, kZ, wL, wN⟩ := aS rD b0 bV
  cases nV
  have M7_ := trivial
  rotate_left
  obtain rfl := Option.some.inj H
  repeat clear H
  obtain ⟨jW, nV, kZ, wL, wN⟩ := aS rD b0 bV
  cases nV
  have M8_ := trivial
  rotate_left
  obtain rfl := Option.some.inj H
  repeat clear H
  rotate_left
  all_goals
   go_wp2_with (first | (go_at_call 80; revert M6_; intro M6_; revert A5; intro A5; refine cM (dK.calls k1 _ _ l1 (rdOf ByteArray.empty l0 bV) true _ (pC tO.1) zK.1 A5.out) ?_; rintro w' ⟨nd, rfl⟩; (try exact dR); obtain ⟨e4, oG, j5, uK, uL⟩ := aS rD b0 (ji8); obtain rfl : jW = e4 := (by injection oG); obtain ⟨lW, vA, rO, JC, JE⟩ := aS rD b0 bV; obtain rfl : jW = lW := (by injection vA); clear A5) | (go_at_call 80; revert M7_; intro M7_; revert A5; intro A5; refine cM (dK.calls k1 _ _ l1 (rdOf ByteArray.empty l0 bV) true _ (pC tO.1) zK.1 A5.out) ?_; rintro w' ⟨nd, rfl⟩; (try exact dR); clear A5) | (go_at_call 80; revert M8_; intro M8_; revert A5; intro A5; refine cM (dK.calls k1 _ _ l1 (rdOf ByteArray.empty l0 bV) false _ (pC tO.1) zK.1 A5.out) ?_; rintro w' ⟨nd, rfl⟩; (try exact dR); clear A5))
  ·repeat (go_quiet (first | (go_at_call 80; refine cM (dK.calls k1 _ _ l1 (rdOf ByteArray.empty l0 bV) true _ (pC tO.1) zK.1 A5.out) ?_; rintro w' ⟨nd, rfl⟩; (try exact dR); obtain ⟨e4, oG, j5, uK, uL⟩ := aS rD b0 (ji8); obtain rfl : jW = e4 := (by injection oG); obtain ⟨lW, vA, rO, JC, JE⟩ := aS rD b0 bV; obtain rfl : jW = lW := (by injection vA))); try go_wp2_with (first | (go_at_call 80; refine cM (dK.calls k1 _ _ l1 (rdOf ByteArray.empty l0 bV) true _ (pC tO.1) zK.1 A5.out) ?_; rintro w' ⟨nd, rfl⟩; (try exact dR); obtain ⟨e4, oG, j5, uK, uL⟩ := aS rD b0 (ji8); obtain rfl : jW = e4 := (by injection oG); obtain ⟨lW, vA, rO, JC, JE⟩ := aS rD b0 bV; obtain rfl : jW = lW := (by injection vA))))
   go_roundg k1
   case measure => have := HK1.out; omega
   case rel => exact ⟨(wrap64 (bV + 1)), dH, H', ⟨by have := HK1.out; omega⟩, gN⟩
  ·repeat (go_quiet (first | (go_at_call 80; refine cM (dK.calls k1 _ _ l1 (rdOf ByteArray.empty l0 bV) true _ (pC tO.1) zK.1 A5.out) ?_; rintro w' ⟨nd, rfl⟩; (try exact dR); obtain ⟨e4, oG, j5, uK, uL⟩ := aS rD b0 (ji8); obtain rfl : jW = e4 := (by injection oG); obtain ⟨lW, vA, rO, JC, JE⟩ := aS rD b0 bV; obtain rfl : jW = lW := (by injection vA))); try go_wp2_with (first | (go_at_call 80; refine cM (dK.calls k1 _ _ l1 (rdOf ByteArray.empty l0 bV) true _ (pC tO.1) zK.1 A5.out) ?_; rintro w' ⟨nd, rfl⟩; (try exact dR); obtain ⟨e4, oG, j5, uK, uL⟩ := aS rD b0 (ji8); obtain rfl : jW = e4 := (by injection oG); obtain ⟨lW, vA, rO, JC, JE⟩ := aS rD b0 bV; obtain rfl : jW = lW := (by injection vA))))
   go_ret
   exact ⟨by first | rfl | (simp; done) | (simp only [← hji8] <;> (first | rfl | simp)) | (simp [*]; done), gN⟩
  ·repeat (go_quiet (first | (go_at_call 80; refine cM (dK.calls k1 _ _ l1 (rdOf ByteArray.empty l0 bV) true _ (pC tO.1) zK.1 A5.out) ?_; rintro w' ⟨nd, rfl⟩; (try exact dR))); try go_wp2_with (first | (go_at_call 80; refine cM (dK.calls k1 _ _ l1 (rdOf ByteArray.empty l0 bV) true _ (pC tO.1) zK.1 A5.out) ?_; rintro w' ⟨nd, rfl⟩; (try exact dR))))
   go_roundg k1
   case measure => have := HK1.out; omega
   case rel => exact ⟨(wrap64 (bV + 1)), dH, H', ⟨by have := HK1.out; omega⟩, gN⟩
  ·repeat (go_quiet (first | (go_at_call 80; refine cM (dK.calls k1 _ _ l1 (rdOf ByteArray.empty l0 bV) false _ (pC tO.1) zK.1 A5.out) ?_; rintro w' ⟨nd, rfl⟩; (try exact dR))); try go_wp2_with (first | (go_at_call 80; refine cM (dK.calls k1 _ _ l1 (rdOf ByteArray.empty l0 bV) false _ (pC tO.1) zK.1 A5.out) ?_; rintro w' ⟨nd, rfl⟩; (try exact dR))))
   go_ret
   exact ⟨by first | rfl | (simp; done) | (simp [*]; done), gN⟩
  ·repeat (go_quiet (fail); try go_wp2)
   go_ret
   exact ⟨by first | rfl | (simp; done) | (simp [*]; done), gN⟩
def eX.l0 : Nat → List ByteArray → List ByteArray → Int → Option (Bool)
 | 0, _, _, _ => none
 | k + 1, b, c, a => if a < (b.length : Int) then (if 0 ≤ a then ((dK.f k c (rdOf ByteArray.empty b a)).bind fun d => (if d = true then (some true) else (eX.l0 k b c (wrap64 (a + 1))))) else (none)) else (some false)
def eX.f (k : Nat) (l0 : List ByteArray) (l1 : List ByteArray) : Option (Bool) := eX.l0 k l0 l1 0
theorem eX.calls (k : Nat) (A0 : Option Addr) (c0 : Nat) (l0 : List ByteArray) (A1 : Option Addr) (c1 : Nat) (l1 : List ByteArray) (r : Bool) (w : World) (r5 : Kd.C Kd.string w A0 l0.length l0) (xK : l0.length ≤ c0) (BF : Kd.C Kd.string w A1 l1.length l1) (DK : l1.length ≤ c1) (h : eX.f k l0 l1 = some r) :
  Calls Try.prog 72 #[.slice A0 l0.length c0, .slice A1 l1.length c1] w fun e w' => e = .returned (.bool r) ∧ kP w w' := by
 obtain ⟨rD, O0⟩ := mZ2 r5 xK
 obtain ⟨tO, zK⟩ := mZ2 BF DK
 clear r5 xK BF DK
 unfold eX.f at h
 have H := h
 clear h
 have H' := am H
 repeat clear H
 go_enter Try.func72, Try.ntmps72
 go_wp2
 go_loopg [5] k (fun kq v5 w' => ∃ (bV : Int), v5 = .int .i64 bV ∧ aA (eX.l0 kq l0 l1 bV = some r) ∧ aA (kq ≤ k) ∧ kP w w')
 case atStart => exact ⟨(0), dH, H', ⟨Nat.le_refl _⟩, gN⟩
 clear H'
 try clear c1
 obtain ⟨bV, rfl, HA, HK1, ⟨m1, rfl⟩⟩ := hrel
 cases gk with
 | zero => exact absurd HA.out (by simp [eX.l0])
 | succ k1 =>
  have H := HA.out
  clear HA
  simp only [eX.l0] at H
  refine ic H ?_ ?_ <;> clear H <;> intro BG H
  ·obtain ⟨vT, H⟩ := cN H
   obtain ⟨kQ, A5, H⟩ := bd H
   refine tC H ?_ ?_ <;> clear H <;> intro c6 H <;> subst c6
   ·obtain rfl := Option.some.inj H
    repeat clear H
    obtain ⟨jW, nV, kZ, wL, wN⟩ := aS rD b0 bV
    cases nV
    go_wp2_with (first | ((with_reducible refine gC 80 ?_); refine cQ (some 17) Try.func80 (dK.calls k1 _ _ l1 (rdOf ByteArray.empty l0 bV) true _ (pC tO.1) zK.1 A5.out) ?_; rintro w' ⟨nd, rfl⟩))
    go_ret
    exact ⟨by first | rfl | (simp; done) | (simp [*]; done), gN⟩
   ·have H' := am H
    repeat clear H
    obtain ⟨jW, nV, kZ, wL, wN⟩ := aS rD b0 bV
    cases nV
    go_wp2_with (first | ((with_reducible refine gC 80 ?_); refine cQ (some 17) Try.func80 (dK.calls k1 _ _ l1 (rdOf ByteArray.empty l0 bV) false _ (pC tO.1) zK.1 A5.out) ?_; rintro w' ⟨nd, rfl⟩))
    go_roundg k1
    case measure => have := HK1.out; omega
    case rel => exact ⟨(wrap64 (bV + 1)), dH, H', ⟨by have := HK1.out; omega⟩, gN⟩
  ·obtain rfl := Option.some.inj H
   repeat clear H
   go_wp2
   go_ret
   exact ⟨by first | rfl | (simp; done) | (simp [*]; done), gN⟩
mutual
def aH.j0 : Nat → Bool → List ByteArray → List (S56) → Option (Bool)
 | 0, _, _, _ => none
 | k + 1, a, b, c => if a = true then (some false) else (aH.l0 k 0 b c)
def aH.l0 : Nat → Int → List ByteArray → List (S56) → Option (Bool)
 | 0, _, _, _ => none
 | k + 1, a, c, b => if a < (b.length : Int) then (if 0 ≤ a then ((d9.f k ((aC b a).f0)).bind fun d => (if d = true then (if a > 0 then (if 0 ≤ (wrap64 (a - 1)) then (if (wrap64 (a - 1)) < (b.length : Int) then (if ((Op.bytesLess (((aC b (wrap64 (a - 1))).f0).toList) (((aC b a).f0).toList)) = true) then ((dC.f k ((aC b a).f2) c).bind fun e => (if e = true then ((dC.f k ((aC b a).f1) ((aC b a).f2)).bind fun g => (aH.j2 k a (!g) c b ((aC b a).f0) ((aC b a).f1) ((aC b a).f2))) else (aH.j2 k a true c b ((aC b a).f0) ((aC b a).f1) ((aC b a).f2)))) else (aH.j2 k a true c b ((aC b a).f0) ((aC b a).f1) ((aC b a).f2))) else (none)) else (none)) else ((dC.f k ((aC b a).f2) c).bind fun h => (if h = true then ((dC.f k ((aC b a).f1) ((aC b a).f2)).bind fun i => (aH.j2 k a (!i) c b ((aC b a).f0) ((aC b a).f1) ((aC b a).f2))) else (aH.j2 k a true c b ((aC b a).f0) ((aC b a).f1) ((aC b a).f2))))) else (aH.j2 k a true c b ((aC b a).f0) ((aC b a).f1) ((aC b a).f2)))) else (none)) else (some true)
def aH.j2 : Nat → Int → Bool → List ByteArray → List (S56) → ByteArray → List ByteArray → List ByteArray → Option (Bool)
 | 0, _, _, _, _, _, _, _ => none
 | k + 1, a, b, c, d, e, f, g => if b = true then (some false) else (aH.l1 k a 0 c d e f g)
def aH.l1 : Nat → Int → Int → List ByteArray → List (S56) → ByteArray → List ByteArray → List ByteArray → Option (Bool)
 | 0, _, _, _, _, _, _, _ => none
 | k + 1, c, a, d, b, g, e, h => if a < c then (if 0 ≤ a then (if a < (b.length : Int) then ((eX.f k e ((aC b a).f1)).bind fun i => (if i = true then (some false) else (aH.l1 k c (wrap64 (a + 1)) d b g e h))) else (none)) else (none)) else (aH.l0 k (wrap64 (c + 1)) d b)
end
def aH.f (k : Nat) (aY : List ByteArray) (aI : List (S56)) : Option (Bool) := (fH.f k aY).bind fun a => (if a = true then (aH.j0 k (decide ((aI.length : Int) > 5)) aY aI) else (aH.j0 k true aY aI))
def aH.T7 : Bool × List (List Nat × List Nat) := (true, [([], []), ([0], [0]), ([1], [1]), ([2], [2]), ([3, 2], [3]), ([4], [4]), ([5, 4], [4, 5]), ([6, 4, 4], [4, 6]), ([7], [7]), ([8, 7], [7, 8]), ([7], [7]), ([10, 7], [7, 10]), ([9, 11, 7], [7, 9, 11]), ([12, 7], [7, 12]), ([13, 7], [7, 13]), ([7], [7]), ([15, 7], [7, 15]), ([14, 16, 7], [7, 14, 16]), ([7, 17, 4], [4, 7, 17]), ([4, 18], [4, 18]), ([19, 7], [19]), ([20], [20]), ([21, 20], [20, 21]), ([20], [20]), ([23, 20], [20, 23]), ([22, 24, 20, 20], [20, 22, 24]), ([25, 20], [20, 25]), ([20, 26], [20, 26]), ([27, 25], [27]), ([28], [28]), ([29, 28], [28, 29]), ([28], [28]), ([31, 28], [28, 31]), ([30, 32, 28, 28], [28, 30, 32]), ([33, 28], [28, 33]), ([28, 34], [28, 34])])
def aH.B7 : List Nat := [0, 1, 3, 7, 15, 31, 63, 127, 255, 511, 255, 1279, 4095, 8191, 16383, 255, 33023, 131071, 262143, 524287, 1048575, 2097151, 4194303, 2097151, 10485759, 33554431, 67108863, 134217727, 268435455, 536870911, 1073741823, 536870911, 2684354559, 8589934591, 17179869183, 34359738367]
theorem aH.tab7 : rtab .any (opsOf Try.f22 7) = aH.T7 := by kernel_rfl
theorem aH.uG : kM aH.T7.2 aH.B7 = true := by kernel_rfl
def aH.T12 : Bool × List (List Nat × List Nat) := (true, [([], []), ([0], [0]), ([], []), ([2], [2]), ([], []), ([3, 4], [3, 4]), ([5], [5]), ([6], [6]), ([1, 7], [1, 7])])
def aH.B12 : List Nat := [0, 1, 0, 4, 0, 28, 60, 124, 255]
theorem aH.Xl : rtab .any (opsOf Try.f22 12) = aH.T12 := by kernel_rfl
theorem aH.Ko : kM aH.T12.2 aH.B12 = true := by kernel_rfl
theorem aH.calls (k : Nat) (eL : Option Addr) (eO : Nat) (aY : List ByteArray) (fJ : Option Addr) (eJ : Nat) (aI : List (S56)) (r : Bool) (w : World) (iQ : Kd.C Kd.string w eL aY.length aY) (iO : aY.length ≤ eO) (iH : Kd.C k56 w fJ aI.length aI) (iP : aI.length ≤ eJ) (h : aH.f k aY aI = some r) :
  Calls Try.prog 22 #[.agg #[.slice eL aY.length eO, .slice fJ aI.length eJ]] w fun e w' => e = .returned (.bool r) ∧ Below w.heap.size w w' := by
 have hu31 := Try.underlying31
 have hu56 := Try.underlying56
 obtain ⟨eQ, eP⟩ := mZ2 iQ iO
 obtain ⟨dO, fP⟩ := mZ2 iH iP
 clear iQ iO iH iP
 have HB := am (Below.refl w.heap.size w)
 unfold aH.f at h
 have H := h
 clear h
 have D0 := am H
 clear H
 go_enter Try.func22, Try.ntmps22
 go_upto_region 1 with (first | ((with_reducible refine gD 1 ?_); (try (refine nE (by rfl) ?_; dsimp only)); refine bX 1 #[.slice eL aY.length eO, .slice fJ aI.length eJ] 31 ?_; intro aJ hg w3 hbox hb; have a3 := am hbox; have gH := am (u0 : w.heap.size ≤ aJ); have iE := gH; replace HB := bS eI hb; clear hb hbox hg))
 (try simp only [Act.put, List.setIfInBounds_toArray, List.set_cons_zero, List.set_cons_succ])
 go_cut [15] (fun v15 wc => ∃ (kq : Nat) (Oz : Bool), v15 = .bool Oz ∧ aA (aH.j0 kq Oz aY aI = some r) ∧ aA (kq ≤ k) ∧ aA (wc.heap[aJ]? = some (.cells #[(.slice eL aY.length eO), (.slice fJ aI.length eJ)] 31 (0, 0))) ∧ aA (Below w.heap.size w wc))
 case first =>
  have H := D0.1
  clear D0
  obtain ⟨kQ, A4, H⟩ := bd H
  refine tC H ?_ ?_ <;> clear H <;> intro c5 H <;> subst c5
  ·have H' := am H
   repeat clear H
   have Z6 := cz2 a3
   go_wp2_with (first | ((with_reducible refine gC 69 ?_); refine cQ (some 8) Try.func69 (fH.calls k _ _ aY true _ (pB eQ) eP.1 A4.out) ?_; rintro w' ⟨nd, rfl⟩))
   go_meet
   exact ⟨_, (decide ((aI.length : Int) > 5)), dH, H', ⟨by first | omega | exact Nat.le_refl _⟩, ⟨rB a3.1⟩, ⟨dS⟩⟩
  have H' := am H
  repeat clear H
  have Z7 := cz2 a3
  go_wp2_with (first | ((with_reducible refine gC 69 ?_); refine cQ (some 8) Try.func69 (fH.calls k _ _ aY false _ (pB eQ) eP.1 A4.out) ?_; rintro w' ⟨nd, rfl⟩))
  go_meet
  exact ⟨_, (true), dH, H', ⟨by first | omega | exact Nat.le_refl _⟩, ⟨rB a3.1⟩, ⟨dS⟩⟩
 clear D0
 obtain ⟨kq, Oz, rfl, HA, HJ1, a3, HB⟩ := hcut
 cases kq with
 | zero => exact absurd HA.out (by simp [aH.j0])
 | succ kj1 =>
  have H := HA.out
  clear HA
  simp only [aH.j0] at H
  refine tC H ?_ ?_ <;> (repeat clear H) <;> intro c8 H <;> subst c8
  ·obtain rfl := Option.some.inj H
   repeat clear H
   go_wp2
   go_ret
   exact ⟨eR, dS⟩
  ·have H' := am H
   repeat clear H
   go_wp2
   go_loopg [3] kj1 (fun kq v3 w' => ∃ (hL : Int), v3 = .int .i64 hL ∧ aA (aH.l0 kq hL aY aI = some r) ∧ aA (kq ≤ kj1) ∧ aA (w'.heap[aJ]? = some (.cells #[(.slice eL aY.length eO), (.slice fJ aI.length eJ)] 31 (0, 0))) ∧ aA (Below w.heap.size w w'))
   case atStart => exact ⟨(0), dH, H', ⟨Nat.le_refl _⟩, ⟨rB a3.1⟩, ⟨dS⟩⟩
   case round =>
    clear H'
    try clear c8
    obtain ⟨hL, rfl, HA, HK2, a3, HB⟩ := hrel
    cases gk with
    | zero => exact absurd HA.out (by simp [aH.l0])
    | succ k2 =>
     have H := HA.out
     clear HA
     simp only [aH.l0] at H
     refine ic H ?_ ?_ <;> clear H <;> intro LY H
     ·obtain ⟨IC, H⟩ := cN H
      have Yx := am H
      clear H
      have yf := cz2 a3
      obtain ⟨e4, r9, rK, rA, rL, oG, j5, BT, BU, xI, E9, uS, yW, uK, uL⟩ := aT56 dO HB hL
      cases oG
      go_upto_region 7 with (first | ((with_reducible refine gD 4 ?_); (try (refine nE (by rfl) ?_; dsimp only)); refine bX 4 #[.string (⟨#[]⟩ : ByteArray), .slice none 0 0, .slice none 0 0] 56 ?_; intro JZ hg Pt hbox hb; have hO := am hbox; have mw := am (GG : w.heap.size ≤ JZ); have OX := mw; replace HB := bS dS hb; have l8 := nL aQ hg; have vI := nG aQ hg; replace a3 := bB aQ hb; clear hb hbox hg; have Z14 := nZ1 vI l8; have Z15 := cz3 hO))
      (try simp only [Act.put, List.setIfInBounds_toArray, List.set_cons_zero, List.set_cons_succ])
      go_cut [63] (fun v63 wc => ∃ (kq : Nat) (Bp : Bool), v63 = .bool Bp ∧ aA (aH.j2 kq hL Bp aY aI ((aC aI hL).f0) ((aC aI hL).f1) ((aC aI hL).f2) = some r) ∧ aA (kq ≤ k2) ∧ aA (wc.heap[aJ]? = some (.cells #[(.slice eL aY.length eO), (.slice (some e4) aI.length eJ)] 31 (0, 0))) ∧ aA (wc.heap[JZ]? = some (.cells #[.string ((aC aI hL).f0), (.slice r9 ((aC aI hL).f1).length rK), (.slice rA ((aC aI hL).f2).length rL)] 56 (0, 0))) ∧ aA (Below w.heap.size w wc))
      case first =>
       have H := Yx.1
       clear Yx
       obtain ⟨fI, YW, H⟩ := bd H
       refine tC H ?_ ?_ <;> clear H <;> intro c17 H <;> subst c17
       ·by_cases MW : hL > 0
        ·rw [if_pos MW] at H
         have vO : decide (0 < hL) = true := decide_eq_true MW
         clear MW
         (first | rw [vO] | (simp only [mV, pE]; rw [vO]) | skip)
         obtain ⟨ji19, hji19⟩ : ∃ j_ : Int, (wrap64 (hL - 1)) = j_ := ⟨_, rfl⟩
         replace H : (if 0 ≤ (ji19) then (if (ji19) < (aI.length : Int) then (if ((Op.bytesLess (((aC aI (ji19)).f0).toList) (((aC aI hL).f0).toList)) = true) then ((dC.f k2 ((aC aI hL).f2) aY).bind fun e5 => (if e5 = true then ((dC.f k2 ((aC aI hL).f1) ((aC aI hL).f2)).bind fun fW => (aH.j2 k2 hL (!fW) aY aI ((aC aI hL).f0) ((aC aI hL).f1) ((aC aI hL).f2))) else (aH.j2 k2 hL true aY aI ((aC aI hL).f0) ((aC aI hL).f1) ((aC aI hL).f2)))) else (aH.j2 k2 hL true aY aI ((aC aI hL).f0) ((aC aI hL).f1) ((aC aI hL).f2))) else (none)) else (none)) = some r := by first | (rw [hji19] at H; exact H) | (simp only [hji19] at H ⊢; exact H)
         (try rw [hji19] at YW)
         have hji19w : (IntKind.i64.wrap (hL - 1)) = ji19 := (mV _).trans hji19
         obtain ⟨Vu, H⟩ := cN H
         obtain ⟨Vv, H⟩ := cN H
         refine tC H ?_ ?_ <;> clear H <;> intro Vw H
         ·obtain ⟨e5, WP, H⟩ := bd H
          refine tC H ?_ ?_ <;> clear H <;> intro X9 H <;> subst X9
          ·obtain ⟨fW, A25, H⟩ := bd H
           have H' := am H
           repeat clear H
           try go_wp2
           obtain ⟨lm, eW_⟩ := eW3 Pt JZ (.string ((aC aI hL).f0)) (.slice r9 ((aC aI hL).f1).length rK) (.slice rA ((aC aI hL).f2).length rL)
           rw [← eW_]
           replace a3 := uF3 eW_ a3 l8
           replace hO := uP3 eW_ hO
           replace HB := uC3 eW_ HB OX
           clear eW_
           replace a3 := BD a3
           replace hO := BD hO
           replace HB := am (aV HB.1)
           obtain ⟨vK, zS, AB, CL, CR, CS, mZ, wG, wH, p2, z8, z9, yX, GM, yY, GN, M8, GI⟩ := wW dO HB (ji19)
           obtain rfl : e4 = vK := (by injection CS)
           refine sT [] 36 (uB3 hO (uB2 a3 (uBx HB mZ (uBx HB wG (uAx HB wH))))) (fun hHeld => ?_)
           refine dZ aH.tab7 aH.uG (fun HT_ HW_ => ?_)
           generalize lm.drew = YM at a3 hO HB yX yY p2 z8 z9 hHeld ⊢
           refine pU1 0 ?_
           refine tK8 1 (some 29) ?_
           refine oN 2 (some 30) fun K hK => ?_
           refine gQ Try.func70 (d9.calls k2 ((aC aI hL).f0) true _ YW.out) ?_
           rintro w' ⟨nd, rfl⟩
           refine nK hK (uB3 hO (uB2 a3 (uBx HB mZ (uBx HB wG (uAx HB wH))))).1 fun hHeld => ?_
           clear hK K
           refine pU8 3 4 5 6 7 8 10 11 ?_
           refine pU1 15 ?_
           refine tK8 9 (some 37) ?_
           refine pU2 12 13 ?_
           refine tK8 14 (some 42) ?_
           refine tK8 16 (some 44) ?_
           refine pU6 17 18 19 20 21 23 ?_
           refine tK8 22 (some 50) ?_
           refine tK8 24 (some 52) ?_
           refine oN 25 (some 53) fun K hK => ?_
           refine gQ Try.func71 (dC.calls k2 _ _ ((aC aI hL).f2) _ _ aY true _ (pC (Kd.bK uS.1 AY)) yW.1 (pC (Kd.bK eQ.1 AY)) eP.1 WP.out) ?_
           rintro w' ⟨nd, rfl⟩
           refine nK hK (uB3 hO (uB2 a3 (uBx HB mZ (uBx HB wG (uAx HB wH))))).1 fun hHeld => ?_
           clear hK K
           refine pU5 26 27 28 29 31 ?_
           refine tK8 30 (some 58) ?_
           refine tK8 32 (some 60) ?_
           refine oN 33 (some 61) fun K hK => ?_
           refine gQ Try.func71 (dC.calls k2 _ _ ((aC aI hL).f1) _ _ ((aC aI hL).f2) fW _ (pC (Kd.bK xI.1 AY)) E9.1 (pC (Kd.bK uS.1 AY)) yW.1 A25.out) ?_
           rintro w' ⟨nd, rfl⟩
           refine nK hK (uB3 hO (uB2 a3 (uBx HB mZ (uBx HB wG (uAx HB wH))))).1 fun hHeld => ?_
           clear hK K
           refine pU2 34 35 ?_
           refine dN ?_
           try go_wp2
           go_meet
           case rel => exact ⟨_, (!fW), dH, H', ⟨by have := HJ1.out; have := HK2.out; first | omega | exact Nat.le_refl _⟩, ⟨rB a3.1⟩, ⟨rB hO.1⟩, ⟨AY⟩⟩
          ·have H' := am H
           repeat clear H
           try go_wp2
           obtain ⟨w28, eW_⟩ := eW3 Pt JZ (.string ((aC aI hL).f0)) (.slice r9 ((aC aI hL).f1).length rK) (.slice rA ((aC aI hL).f2).length rL)
           rw [← eW_]
           replace a3 := uF3 eW_ a3 l8
           replace hO := uP3 eW_ hO
           replace HB := uC3 eW_ HB OX
           clear eW_
           replace a3 := BD a3
           replace hO := BD hO
           replace HB := am (aV HB.1)
           obtain ⟨vK, zS, AB, CL, CR, CS, mZ, wG, wH, p2, z8, z9, yX, GM, yY, GN, M8, GI⟩ := wW dO HB (ji19)
           obtain rfl : e4 = vK := (by injection CS)
           refine sT [] 36 (uB3 hO (uB2 a3 (uBx HB mZ (uBx HB wG (uAx HB wH))))) (fun hHeld => ?_)
           refine dZ aH.tab7 aH.uG (fun HT_ HW_ => ?_)
           generalize w28.drew = w29 at a3 hO HB yX yY p2 z8 z9 hHeld ⊢
           refine pU1 0 ?_
           refine tK8 1 (some 29) ?_
           refine oN 2 (some 30) fun K hK => ?_
           refine gQ Try.func70 (d9.calls k2 ((aC aI hL).f0) true _ YW.out) ?_
           rintro w' ⟨nd, rfl⟩
           refine nK hK (uB3 hO (uB2 a3 (uBx HB mZ (uBx HB wG (uAx HB wH))))).1 fun hHeld => ?_
           clear hK K
           refine pU8 3 4 5 6 7 8 10 11 ?_
           refine pU1 15 ?_
           refine tK8 9 (some 37) ?_
           refine pU2 12 13 ?_
           refine tK8 14 (some 42) ?_
           refine tK8 16 (some 44) ?_
           refine pU6 17 18 19 20 21 23 ?_
           refine tK8 22 (some 50) ?_
           refine tK8 24 (some 52) ?_
           refine oN 25 (some 53) fun K hK => ?_
           refine gQ Try.func71 (dC.calls k2 _ _ ((aC aI hL).f2) _ _ aY false _ (pC (Kd.bK uS.1 AY)) yW.1 (pC (Kd.bK eQ.1 AY)) eP.1 WP.out) ?_
           rintro w' ⟨nd, rfl⟩
           refine nK hK (uB3 hO (uB2 a3 (uBx HB mZ (uBx HB wG (uAx HB wH))))).1 fun hHeld => ?_
           clear hK K
           refine pU3 26 27 28 ?_
           refine pV6 29 30 31 32 33 34 ?_
           refine pU1 35 ?_
           refine dN ?_
           try go_wp2
           go_meet
           case rel => exact ⟨_, (true), dH, H', ⟨by have := HJ1.out; have := HK2.out; first | omega | exact Nat.le_refl _⟩, ⟨rB a3.1⟩, ⟨rB hO.1⟩, ⟨AY⟩⟩
         ·have H' := am H
          repeat clear H
          try go_wp2
          obtain ⟨wt, eW_⟩ := eW3 Pt JZ (.string ((aC aI hL).f0)) (.slice r9 ((aC aI hL).f1).length rK) (.slice rA ((aC aI hL).f2).length rL)
          rw [← eW_]
          replace a3 := uF3 eW_ a3 l8
          replace hO := uP3 eW_ hO
          replace HB := uC3 eW_ HB OX
          clear eW_
          replace a3 := BD a3
          replace hO := BD hO
          replace HB := am (aV HB.1)
          obtain ⟨vK, zS, AB, CL, CR, CS, mZ, wG, wH, p2, z8, z9, yX, GM, yY, GN, M8, GI⟩ := wW dO HB (ji19)
          obtain rfl : e4 = vK := (by injection CS)
          refine sT [] 36 (uB3 hO (uB2 a3 (uBx HB mZ (uBx HB wG (uAx HB wH))))) (fun hHeld => ?_)
          refine dZ aH.tab7 aH.uG (fun HT_ HW_ => ?_)
          generalize wt.drew = w31 at a3 hO HB yX yY p2 z8 z9 hHeld ⊢
          refine pU1 0 ?_
          refine tK8 1 (some 29) ?_
          refine oN 2 (some 30) fun K hK => ?_
          refine gQ Try.func70 (d9.calls k2 ((aC aI hL).f0) true _ YW.out) ?_
          rintro w' ⟨nd, rfl⟩
          refine nK hK (uB3 hO (uB2 a3 (uBx HB mZ (uBx HB wG (uAx HB wH))))).1 fun hHeld => ?_
          clear hK K
          refine pU8 3 4 5 6 7 8 10 11 ?_
          refine pU1 15 ?_
          refine tK8 9 (some 37) ?_
          refine pU2 12 13 ?_
          refine tK8 14 (some 42) ?_
          refine tK8 16 (some 44) ?_
          refine pU4 17 18 19 20 ?_
          refine pV6 21 22 23 24 25 26 ?_
          refine pU2 27 28 ?_
          refine pV6 29 30 31 32 33 34 ?_
          refine pU1 35 ?_
          refine dN ?_
          try go_wp2
          go_meet
          case rel => exact ⟨_, (true), dH, H', ⟨by have := HJ1.out; have := HK2.out; first | omega | exact Nat.le_refl _⟩, ⟨rB a3.1⟩, ⟨rB hO.1⟩, ⟨AY⟩⟩
        ·rw [if_neg MW] at H
         have vO : decide (0 < hL) = false := decide_eq_false MW
         clear MW
         (first | rw [vO] | (simp only [mV, pE]; rw [vO]) | skip)
         obtain ⟨DR, ju, H⟩ := bd H
         refine tC H ?_ ?_ <;> clear H <;> intro c33 H <;> subst c33
         ·obtain ⟨vD, A34, H⟩ := bd H
          have H' := am H
          repeat clear H
          try go_wp2
          obtain ⟨jj, eW_⟩ := eW3 Pt JZ (.string ((aC aI hL).f0)) (.slice r9 ((aC aI hL).f1).length rK) (.slice rA ((aC aI hL).f2).length rL)
          rw [← eW_]
          replace a3 := uF3 eW_ a3 l8
          replace hO := uP3 eW_ hO
          replace HB := uC3 eW_ HB OX
          clear eW_
          replace a3 := BD a3
          replace hO := BD hO
          replace HB := am (aV HB.1)
          refine sT [] 36 (uB3 hO (uA2 a3)) (fun hHeld => ?_)
          refine dZ aH.tab7 aH.uG (fun HT_ HW_ => ?_)
          generalize jj.drew = Ou at a3 hO HB hHeld ⊢
          refine pU1 0 ?_
          refine tK5 1 (some 29) ?_
          refine oN 2 (some 30) fun K hK => ?_
          refine gQ Try.func70 (d9.calls k2 ((aC aI hL).f0) true _ YW.out) ?_
          rintro w' ⟨nd, rfl⟩
          refine nK hK (uB3 hO (uA2 a3)).1 fun hHeld => ?_
          clear hK K
          refine pU5 3 4 5 6 7 ?_
          refine pV8 8 9 10 11 12 13 14 15 ?_
          refine pV2 16 17 ?_
          refine pU5 18 19 20 21 23 ?_
          refine tK5 22 (some 50) ?_
          refine tK5 24 (some 52) ?_
          refine oN 25 (some 53) fun K hK => ?_
          refine gQ Try.func71 (dC.calls k2 _ _ ((aC aI hL).f2) _ _ aY true _ (pC (Kd.bK uS.1 AY)) yW.1 (pC (Kd.bK eQ.1 AY)) eP.1 ju.out) ?_
          rintro w' ⟨nd, rfl⟩
          refine nK hK (uB3 hO (uA2 a3)).1 fun hHeld => ?_
          clear hK K
          refine pU5 26 27 28 29 31 ?_
          refine tK5 30 (some 58) ?_
          refine tK5 32 (some 60) ?_
          refine oN 33 (some 61) fun K hK => ?_
          refine gQ Try.func71 (dC.calls k2 _ _ ((aC aI hL).f1) _ _ ((aC aI hL).f2) vD _ (pC (Kd.bK xI.1 AY)) E9.1 (pC (Kd.bK uS.1 AY)) yW.1 A34.out) ?_
          rintro w' ⟨nd, rfl⟩
          refine nK hK (uB3 hO (uA2 a3)).1 fun hHeld => ?_
          clear hK K
          refine pU2 34 35 ?_
          refine dN ?_
          try go_wp2
          go_meet
          case rel => exact ⟨_, (!vD), dH, H', ⟨by have := HJ1.out; have := HK2.out; first | omega | exact Nat.le_refl _⟩, ⟨rB a3.1⟩, ⟨rB hO.1⟩, ⟨AY⟩⟩
         ·have H' := am H
          repeat clear H
          try go_wp2
          obtain ⟨Ov, eW_⟩ := eW3 Pt JZ (.string ((aC aI hL).f0)) (.slice r9 ((aC aI hL).f1).length rK) (.slice rA ((aC aI hL).f2).length rL)
          rw [← eW_]
          replace a3 := uF3 eW_ a3 l8
          replace hO := uP3 eW_ hO
          replace HB := uC3 eW_ HB OX
          clear eW_
          replace a3 := BD a3
          replace hO := BD hO
          replace HB := am (aV HB.1)
          refine sT [] 36 (uB3 hO (uA2 a3)) (fun hHeld => ?_)
          refine dZ aH.tab7 aH.uG (fun HT_ HW_ => ?_)
          generalize Ov.drew = Hx at a3 hO HB hHeld ⊢
          refine pU1 0 ?_
          refine tK5 1 (some 29) ?_
          refine oN 2 (some 30) fun K hK => ?_
          refine gQ Try.func70 (d9.calls k2 ((aC aI hL).f0) true _ YW.out) ?_
          rintro w' ⟨nd, rfl⟩
          refine nK hK (uB3 hO (uA2 a3)).1 fun hHeld => ?_
          clear hK K
          refine pU5 3 4 5 6 7 ?_
          refine pV8 8 9 10 11 12 13 14 15 ?_
          refine pV2 16 17 ?_
          refine pU5 18 19 20 21 23 ?_
          refine tK5 22 (some 50) ?_
          refine tK5 24 (some 52) ?_
          refine oN 25 (some 53) fun K hK => ?_
          refine gQ Try.func71 (dC.calls k2 _ _ ((aC aI hL).f2) _ _ aY false _ (pC (Kd.bK uS.1 AY)) yW.1 (pC (Kd.bK eQ.1 AY)) eP.1 ju.out) ?_
          rintro w' ⟨nd, rfl⟩
          refine nK hK (uB3 hO (uA2 a3)).1 fun hHeld => ?_
          clear hK K
          refine pU3 26 27 28 ?_
          refine pV6 29 30 31 32 33 34 ?_
          refine pU1 35 ?_
          refine dN ?_
          try go_wp2
          go_meet
          case rel => exact ⟨_, (true), dH, H', ⟨by have := HJ1.out; have := HK2.out; first | omega | exact Nat.le_refl _⟩, ⟨rB a3.1⟩, ⟨rB hO.1⟩, ⟨AY⟩⟩
       ·have H' := am H
        repeat clear H
        try go_wp2
        obtain ⟨WQ, eW_⟩ := eW3 Pt JZ (.string ((aC aI hL).f0)) (.slice r9 ((aC aI hL).f1).length rK) (.slice rA ((aC aI hL).f2).length rL)
        rw [← eW_]
        replace a3 := uF3 eW_ a3 l8
        replace hO := uP3 eW_ hO
        replace HB := uC3 eW_ HB OX
        clear eW_
        replace a3 := BD a3
        replace hO := BD hO
        replace HB := am (aV HB.1)
        refine sT [] 36 (uA3 hO) (fun hHeld => ?_)
        refine dZ aH.tab7 aH.uG (fun HT_ HW_ => ?_)
        generalize WQ.drew = w40 at a3 hO HB hHeld ⊢
        refine pU1 0 ?_
        refine tK3 1 (some 29) ?_
        refine oN 2 (some 30) fun K hK => ?_
        refine gQ Try.func70 (d9.calls k2 ((aC aI hL).f0) false _ YW.out) ?_
        rintro w' ⟨nd, rfl⟩
        refine nK hK (uA3 hO).1 fun hHeld => ?_
        clear hK K
        refine pU2 3 4 ?_
        refine pV8 5 6 7 8 9 10 11 12 ?_
        refine pV6 13 14 15 16 17 18 ?_
        refine pU2 19 20 ?_
        refine pV6 21 22 23 24 25 26 ?_
        refine pU2 27 28 ?_
        refine pV6 29 30 31 32 33 34 ?_
        refine pU1 35 ?_
        refine dN ?_
        try go_wp2
        go_meet
        case rel => exact ⟨_, (true), dH, H', ⟨by have := HJ1.out; have := HK2.out; first | omega | exact Nat.le_refl _⟩, ⟨rB a3.1⟩, ⟨rB hO.1⟩, ⟨AY⟩⟩
      case rest =>
       clear Yx
       obtain ⟨kq, Bp, rfl, HA, Qn, a3, hO, HB⟩ := hcut
       cases kq with
       | zero => exact absurd HA.out (by simp [aH.j2])
       | succ kj10 =>
        have H := HA.out
        clear HA
        simp only [aH.j2] at H
        refine tC H ?_ ?_ <;> (repeat clear H) <;> intro c41 H <;> subst c41
        ·obtain rfl := Option.some.inj H
         repeat clear H
         go_wp2
         go_ret
         exact ⟨eR, AY⟩
        ·have H' := am H
         repeat clear H
         go_wp2
         go_loopg [5] kj10 (fun kq v5 w' => ∃ (YH : Int), v5 = .int .i64 YH ∧ aA (aH.l1 kq hL YH aY aI ((aC aI hL).f0) ((aC aI hL).f1) ((aC aI hL).f2) = some r) ∧ aA (kq ≤ kj10) ∧ aA (w'.heap[aJ]? = some (.cells #[(.slice eL aY.length eO), (.slice (some e4) aI.length eJ)] 31 (0, 0))) ∧ aA (w'.heap[JZ]? = some (.cells #[.string ((aC aI hL).f0), (.slice r9 ((aC aI hL).f1).length rK), (.slice rA ((aC aI hL).f2).length rL)] 56 (0, 0))) ∧ aA (Below w.heap.size w w'))
         case atStart => exact ⟨(0), dH, H', ⟨Nat.le_refl _⟩, ⟨rB a3.1⟩, ⟨rB hO.1⟩, ⟨AY⟩⟩
         case round =>
          clear H'
          try clear c41
          obtain ⟨YH, rfl, HA, HK4, a3, hO, HB⟩ := hrel
          cases gk with
          | zero => exact absurd HA.out (by simp [aH.l1])
          | succ k4 =>
           have H := HA.out
           clear HA
           simp only [aH.l1] at H
           refine ic H ?_ ?_ <;> clear H <;> intro Le H
           ·obtain ⟨aF7, H⟩ := cN H
            obtain ⟨S3, H⟩ := cN H
            obtain ⟨l6, A45, H⟩ := bd H
            refine tC H ?_ ?_ <;> clear H <;> intro Wd H <;> subst Wd
            ·obtain rfl := Option.some.inj H
             repeat clear H
             try go_wp2
             replace a3 := BD a3
             replace hO := BD hO
             replace HB := am (aV HB.1)
             obtain ⟨jL, YP, ZR, YQ, ZS, UM, jP, jQ, jR, wI, zC, zD, yZ, JN, EF, TP, Ns, Oa⟩ := wW dO HB YH
             obtain rfl : e4 = jL := (by injection UM)
             refine sT [] 9 (uB3 hO (uB2 a3 (uBx HB jP (uBx HB jQ (uAx HB jR))))) (fun hHeld => ?_)
             refine dZ aH.Xl aH.Ko (fun HT_ HW_ => ?_)
             generalize wr.drew = w47 at a3 hO HB yZ EF wI zC zD hHeld ⊢
             refine pU3 0 2 4 ?_
             refine tK8 1 (some 70) ?_
             refine tK8 3 (some 72) ?_
             refine pU2 5 6 ?_
             refine tK8 7 (some 76) ?_
             refine oN 8 (some 77) fun K hK => ?_
             refine gQ Try.func72 (eX.calls k4 _ _ ((aC aI hL).f1) _ _ ((aC aI YH).f1) true _ (pB xI) E9.1 (pB yZ) JN.1 A45.out) ?_
             rintro w' ⟨nd, rfl⟩
             refine nK hK (uB3 hO (uB2 a3 (uBx HB jP (uBx HB jQ (uAx HB jR))))).1 fun hHeld => ?_
             clear hK K
             refine dN ?_
             try go_wp2
             go_ret
             exact ⟨eR, AY⟩
            ·have H' := am H
             repeat clear H
             try go_wp2
             replace a3 := BD a3
             replace hO := BD hO
             replace HB := am (aV HB.1)
             obtain ⟨jL, YP, ZR, YQ, ZS, UM, jP, jQ, jR, wI, zC, zD, yZ, JN, EF, TP, Ns, Oa⟩ := wW dO HB YH
             obtain rfl : e4 = jL := (by injection UM)
             refine sT [] 9 (uB3 hO (uB2 a3 (uBx HB jP (uBx HB jQ (uAx HB jR))))) (fun hHeld => ?_)
             refine dZ aH.Xl aH.Ko (fun HT_ HW_ => ?_)
             generalize wr.drew = w48 at a3 hO HB yZ EF wI zC zD hHeld ⊢
             refine pU3 0 2 4 ?_
             refine tK8 1 (some 70) ?_
             refine tK8 3 (some 72) ?_
             refine pU2 5 6 ?_
             refine tK8 7 (some 76) ?_
             refine oN 8 (some 77) fun K hK => ?_
             refine gQ Try.func72 (eX.calls k4 _ _ ((aC aI hL).f1) _ _ ((aC aI YH).f1) false _ (pB xI) E9.1 (pB yZ) JN.1 A45.out) ?_
             rintro w' ⟨nd, rfl⟩
             refine nK hK (uB3 hO (uB2 a3 (uBx HB jP (uBx HB jQ (uAx HB jR))))).1 fun hHeld => ?_
             clear hK K
             refine dN ?_
             try go_wp2
             go_roundg k4
             case measure => have := HJ1.out; have := HK2.out; have := Qn.out; have := HK4.out; omega
             case rel => exact ⟨(wrap64 (YH + 1)), dH, H', ⟨by have := HJ1.out; have := HK2.out; have := Qn.out; have := HK4.out; omega⟩, ⟨rB a3.1⟩, ⟨rB hO.1⟩, ⟨AY⟩⟩
           ·have H' := am H
            repeat clear H
            go_wp2
            go_roundg k4
            case measure => have := HJ1.out; have := HK2.out; have := Qn.out; have := HK4.out; omega
            case rel => exact ⟨(wrap64 (hL + 1)), dH, H', ⟨by have := HJ1.out; have := HK2.out; have := Qn.out; have := HK4.out; omega⟩, ⟨rB a3.1⟩, ⟨AY⟩⟩
     ·obtain rfl := Option.some.inj H
      repeat clear H
      have Z49 := cz2 a3
      go_wp2
      go_ret
      exact ⟨eR, dS⟩
end Go.Proofs.Ytaofjgnhapnndaa.Q
namespace Go.Proofs.Ytaofjgnhapnndaa.Q
open Go.RowKit Go.Proofs.YtaofjgnhapnndaaW.PrintWords Go.Proofs.YtaofjgnhapnndaaW.PrintLast Go.Proofs.YtaofjgnhapnndaaW.PrintMore
set_option linter.unusedVariables false
set_option linter.unusedSimpArgs false
def bG.l0 : Nat → List ByteArray → ByteArray → Int → Int → Option (Int)
 | 0, _, _, _, _ => none
 | k + 1, b, c, d, a => if a < d then (if 0 ≤ a then (if a < (b.length : Int) then (if c.toList = (rdOf ByteArray.empty b a).toList then (some a) else (bG.l0 k b c d (wrap64 (a + 1)))) else (none)) else (none)) else (some (-1))
def bG.f (k : Nat) (l0 : List ByteArray) (a1 : ByteArray) : Option (Int) := bG.l0 k l0 a1 (l0.length : Int) 0
theorem bG.Q0 : ∀ k, (∀ y0 y1 y2 y3, LeO (bG.l0 k y0 y1 y2 y3) (bG.l0 (k + 1) y0 y1 y2 y3))
 | 0 => fun _ _ _ _ r h => by simp [bG.l0] at h
 | k + 1 => by
  have ih0 := bG.Q0 k
  ·intro y0 y1 y2 y3
   unfold bG.l0
   repeat' first
   | (with_reducible exact ih0 _ _ _ _)
   | (with_reducible exact LeO.refl _)
   | (with_reducible exact LeO.none _)
   | (with_reducible refine LeO.ite ?_ ?_)
   | (with_reducible refine LeO.bind ?_ (fun _ => ?_))
   | exact ih0 _ _ _ _
   | exact LeO.none _
   | refine LeO.ite ?_ ?_
   | refine LeO.bind ?_ (fun _ => ?_)
theorem bG.mono : ∀ a0 a1 k, LeO (bG.f k a0 a1) (bG.f (k + 1) a0 a1) := by
 intro a0 a1 k
 have ih0 := bG.Q0 k
 unfold bG.f
 repeat' first
   | (with_reducible exact ih0 _ _ _ _)
   | (with_reducible exact LeO.refl _)
   | (with_reducible exact LeO.none _)
   | (with_reducible refine LeO.ite ?_ ?_)
   | (with_reducible refine LeO.bind ?_ (fun _ => ?_))
   | exact ih0 _ _ _ _
   | exact LeO.none _
   | refine LeO.ite ?_ ?_
   | refine LeO.bind ?_ (fun _ => ?_)
theorem bG.calls (k : Nat) (A0 : Option Addr) (c0 : Nat) (l0 : List ByteArray) (a1 : ByteArray) (r : Int) (w : World) (r5 : Kd.C Kd.string w A0 l0.length l0) (xK : l0.length ≤ c0) (h : bG.f k l0 a1 = some r) :
  Calls Try.prog 116 #[.slice A0 l0.length c0, .string a1] w fun e w' => e = .returned (.int .i64 r) ∧ kP w w' := by
 obtain ⟨rD, O0⟩ := mZ2 r5 xK
 clear r5 xK
 unfold bG.f at h
 have H := h
 clear h
 have H' := am H
 repeat clear H
 go_enter Try.func116, Try.ntmps116
 go_wp2
 go_loopg [8] k (fun kq v8 w' => ∃ (FQ : Int), v8 = .int .i64 FQ ∧ aA (bG.l0 kq l0 a1 (l0.length : Int) FQ = some r) ∧ aA (kq ≤ k) ∧ kP w w')
 case atStart => exact ⟨(0), dH, H', ⟨Nat.le_refl _⟩, gN⟩
 clear H'
 obtain ⟨FQ, rfl, HA, HK1, ⟨m1, rfl⟩⟩ := hrel
 cases gk with
 | zero => exact absurd HA.out (by simp [bG.l0])
 | succ k1 =>
  have H := HA.out
  clear HA
  simp only [bG.l0] at H
  refine ic H ?_ ?_ <;> clear H <;> intro BG H
  ·obtain ⟨vT, H⟩ := cN H
   obtain ⟨EO, H⟩ := cN H
   refine iq H ?_ ?_ <;> clear H <;> intro c6 PK ZZ H
   ·obtain rfl := Option.some.inj H
    repeat clear H
    obtain ⟨jW, nV, kZ, wL, wN⟩ := aS rD b0 FQ
    cases nV
    go_wp2
    go_ret
    exact ⟨by first | rfl | (simp; done) | (simp [*]; done), gN⟩
   ·have H' := am H
    repeat clear H
    obtain ⟨jW, nV, kZ, wL, wN⟩ := aS rD b0 FQ
    cases nV
    go_wp2
    go_roundg k1
    case measure => have := HK1.out; omega
    case rel => exact ⟨(wrap64 (FQ + 1)), dH, H', ⟨by have := HK1.out; omega⟩, gN⟩
  ·obtain rfl := Option.some.inj H
   repeat clear H
   go_wp2
   go_ret
   exact ⟨by first | rfl | (simp; done) | (simp [*]; done), gN⟩
def bA.f (k : Nat) (l0 : List ByteArray) (a1 : ByteArray) : Option (Bool) := (bG.f k l0 a1).bind fun a => (some (decide (a ≥ 0)))
theorem bA.mono : ∀ a0 a1 k, LeO (bA.f k a0 a1) (bA.f (k + 1) a0 a1) := by
 intro a0 a1 k
 unfold bA.f
 repeat' first
   | (with_reducible exact bG.mono _ _ _)
   | (with_reducible exact LeO.refl _)
   | (with_reducible exact LeO.none _)
   | (with_reducible refine LeO.ite ?_ ?_)
   | (with_reducible refine LeO.bind ?_ (fun _ => ?_))
   | exact bG.mono _ _ _
   | exact LeO.none _
   | refine LeO.ite ?_ ?_
   | refine LeO.bind ?_ (fun _ => ?_)
theorem bA.calls (k : Nat) (A0 : Option Addr) (c0 : Nat) (l0 : List ByteArray) (a1 : ByteArray) (r : Bool) (w : World) (r5 : Kd.C Kd.string w A0 l0.length l0) (xK : l0.length ≤ c0) (h : bA.f k l0 a1 = some r) :
  Calls Try.prog 81 #[.slice A0 l0.length c0, .string a1] w fun e w' => e = .returned (.bool r) ∧ kP w w' := by
 obtain ⟨rD, O0⟩ := mZ2 r5 xK
 clear r5 xK
 unfold bA.f at h
 have H := h
 clear h
 obtain ⟨sR, A3, H⟩ := bd H
 obtain rfl := Option.some.inj H
 repeat clear H
 go_enter Try.func81, Try.ntmps81
 go_wp2_with (first | ((with_reducible refine gC 116 ?_); refine cQ (some 7) Try.func116 (bG.calls k _ _ l0 a1 sR _ (pC rD.1) O0.1 A3.out) ?_; rintro w' ⟨nd, rfl⟩))
 go_ret
 exact ⟨by first | rfl | (simp; done) | (simp [*]; done), gN⟩
def jA.l0 : Nat → List ByteArray → List ByteArray → List ByteArray → Int → Int → Option (Bool)
 | 0, _, _, _, _, _ => none
 | k + 1, c, d, b, e, a => if a < e then (if 0 ≤ a then (if a < (b.length : Int) then ((bA.f k d (rdOf ByteArray.empty b a)).bind fun g => (if g = true then (if a > 0 then (if 0 ≤ (wrap64 (a - 1)) then (if (wrap64 (a - 1)) < (c.length : Int) then (if ((Op.bytesLess ((rdOf ByteArray.empty c (wrap64 (a - 1))).toList) ((rdOf ByteArray.empty b a).toList)) = true) then (jA.l0 k c d b e (wrap64 (a + 1))) else (some false)) else (none)) else (none)) else (jA.l0 k c d b e (wrap64 (a + 1)))) else (some false))) else (none)) else (none)) else (some true)
def jA.f (k : Nat) (l0 : List ByteArray) (l1 : List ByteArray) : Option (Bool) := jA.l0 k l0 l1 l0 (l0.length : Int) 0
theorem jA.calls (k : Nat) (A0 : Option Addr) (c0 : Nat) (l0 : List ByteArray) (A1 : Option Addr) (c1 : Nat) (l1 : List ByteArray) (r : Bool) (w : World) (r5 : Kd.C Kd.string w A0 l0.length l0) (xK : l0.length ≤ c0) (BF : Kd.C Kd.string w A1 l1.length l1) (DK : l1.length ≤ c1) (h : jA.f k l0 l1 = some r) :
  Calls Try.prog 74 #[.slice A0 l0.length c0, .slice A1 l1.length c1] w fun e w' => e = .returned (.bool r) ∧ kP w w' := by
 obtain ⟨rD, O0⟩ := mZ2 r5 xK
 obtain ⟨tO, zK⟩ := mZ2 BF DK
 clear r5 xK BF DK
 unfold jA.f at h
 have H := h
 clear h
 have H' := am H
 repeat clear H
 go_enter Try.func74, Try.ntmps74
 go_wp2
 go_loopg [9] k (fun kq v9 w' => ∃ (FD : Int), v9 = .int .i64 FD ∧ aA (jA.l0 kq l0 l1 l0 (l0.length : Int) FD = some r) ∧ aA (kq ≤ k) ∧ kP w w')
 case atStart => exact ⟨(0), dH, H', ⟨Nat.le_refl _⟩, gN⟩
 clear H'
 try clear c1
 obtain ⟨FD, rfl, HA, HK1, ⟨m1, rfl⟩⟩ := hrel
 cases gk with
 | zero => exact absurd HA.out (by simp [jA.l0])
 | succ k1 =>
  have H := HA.out
  clear HA
  simp only [jA.l0] at H
  refine ic H ?_ ?_ <;> clear H <;> intro BG H
  obtain ⟨vT, H⟩ := cN H
  obtain ⟨EO, H⟩ := cN H
  obtain ⟨kQ, A6, H⟩ := bd H
  refine tC H ?_ ?_ <;> clear H <;> intro c7 H <;> subst c7
  by_cases c8 : FD > 0
  rw [if_pos c8] at H
  have HY : decide (0 < FD) = true := decide_eq_true c8
  clear c8
  obtain ⟨ji9, hji9⟩ : ∃ j_ : Int, (wrap64 (FD - 1)) = j_ := ⟨_, rfl⟩
  replace H : (if 0 ≤ (ji9) then (if (ji9) < (l0.length : Int) then (if ((Op.bytesLess ((rdOf ByteArray.empty l0 (ji9)).toList) ((rdOf ByteArray.empty l0 FD).toList)) = true) then (jA.l0 k1 l0 l1 l0 (l0.length : Int) (wrap64 (FD + 1))) else (some false)) else (none)) else (none)) = some r := by first | (rw [hji9] at H; exact H) | (simp only [hji9] at H ⊢; exact H)
  (try rw [hji9] at A6)
  have hji9w : (IntKind.i64.wrap (FD - 1)) = ji9 := (mV _).trans hji9
  obtain ⟨IC, H⟩ := cN H
  obtain ⟨ID, H⟩ := cN H
  refine tC H ?_ ?_ <;> clear H <;> intro MU H
  have H' := am H
  repeat clear H
  obtain ⟨jW, nV, kZ, wL, wN⟩ := aS rD b0 FD
  cases nV
  have Zm := trivial
  rotate_left
  obtain rfl := Option.some.inj H
  repeat clear H
  obtain ⟨jW, nV, kZ, wL, wN⟩ := aS rD b0 FD
  cases nV
  have Zm := trivial
  rotate_left
  rw [if_neg c8] at H
  have HY : decide (0 < FD) = false := decide_eq_false c8
  clear c8
  have H' := am H
  repeat clear H
  obtain ⟨jW, nV, kZ, wL, wN⟩ := aS rD b0 FD
  cases nV
  have ny := trivial
  rotate_left
  obtain rfl := Option.some.inj H
  repeat clear H
  obtain ⟨jW, nV, kZ, wL, wN⟩ := aS rD b0 FD
  cases nV
  have nz := trivial
  rotate_left
  obtain rfl := Option.some.inj H
  repeat clear H
  rotate_left
  all_goals
   go_wp2_with (first | ((with_reducible refine gC 81 ?_); revert Zm; intro Zm; refine cQ (some 16) Try.func81 (bA.calls k1 _ _ l1 (rdOf ByteArray.empty l0 FD) true _ (pC tO.1) zK.1 A6.out) ?_; rintro w' ⟨nd, rfl⟩; obtain ⟨e4, oG, j5, uK, uL⟩ := aS rD b0 (ji9); obtain rfl : jW = e4 := (by injection oG)) | ((with_reducible refine gC 81 ?_); revert ny; intro ny; refine cQ (some 16) Try.func81 (bA.calls k1 _ _ l1 (rdOf ByteArray.empty l0 FD) true _ (pC tO.1) zK.1 A6.out) ?_; rintro w' ⟨nd, rfl⟩) | ((with_reducible refine gC 81 ?_); revert nz; intro nz; refine cQ (some 16) Try.func81 (bA.calls k1 _ _ l1 (rdOf ByteArray.empty l0 FD) false _ (pC tO.1) zK.1 A6.out) ?_; rintro w' ⟨nd, rfl⟩))
  ·go_roundg k1
   case measure => have := HK1.out; omega
   case rel => exact ⟨(wrap64 (FD + 1)), dH, H', ⟨by have := HK1.out; omega⟩, gN⟩
  ·go_ret
   exact ⟨by first | rfl | (simp; done) | (simp only [← hji9] <;> (first | rfl | simp)) | (simp [*]; done), gN⟩
  ·go_roundg k1
   case measure => have := HK1.out; omega
   case rel => exact ⟨(wrap64 (FD + 1)), dH, H', ⟨by have := HK1.out; omega⟩, gN⟩
  ·go_ret
   exact ⟨by first | rfl | (simp; done) | (simp [*]; done), gN⟩
  ·go_ret
   exact ⟨by first | rfl | (simp; done) | (simp [*]; done), gN⟩
def hasS (l : List ByteArray) (s : ByteArray) : Bool := l.any fun x => s.toList == x.toList
theorem TB {i n : Nat} (h : i < n) (hn : n ≤ 9223372036854775807) : wrap64 ((i : Int) + 1) = ((i + 1 : Nat) : Int) := by
 unfold wrap64; omega
theorem Y9 {α : Type} (d : α) (l : List α) (i : Nat) (h : i < l.length) : rdOf d l (i : Int) = l[i] := by
 unfold rdOf; simp [List.getD_eq_getElem?_getD, h]
theorem Mw (l : List ByteArray) (s : ByteArray) (hl : l.length ≤ 9223372036854775807) : ∀ (d k i : Nat), l.length - i = d → i ≤ l.length → d < k →
  ∃ r, bG.l0 k l s (l.length : Int) (i : Int) = some r ∧ decide (r ≥ 0) = (l.drop i).any fun x => s.toList == x.toList := by
 intro d
 induction d with
 | zero =>
  intro k i hd hi hk
  obtain ⟨k, rfl⟩ : ∃ m, k = m + 1 := ⟨k - 1, by omega⟩
  have : i = l.length := by omega
  subst this
  refine ⟨-1, ?_, by simp⟩
  simp only [bG.l0]
  rw [if_neg (by omega)]
 | succ d ih =>
  intro k i hd hi hk
  obtain ⟨k, rfl⟩ : ∃ m, k = m + 1 := ⟨k - 1, by omega⟩
  have hlt : i < l.length := by omega
  rw [List.drop_eq_getElem_cons hlt]
  simp only [bG.l0, List.any_cons]
  rw [if_pos (by omega), if_pos (by omega), if_pos (by omega), Y9 _ _ _ hlt]
  by_cases e : s.toList = l[i].toList
  ·exact ⟨i, by rw [if_pos e], by simp [e]⟩
  ·obtain ⟨r, hr, h⟩ := ih k (i + 1) (by omega) (by omega) (by omega)
   refine ⟨r, ?_, by rw [h]; simp [e]⟩
   rw [if_neg e, TB hlt hl]
   exact hr
theorem MZ (l : List ByteArray) (s : ByteArray) (hl : l.length ≤ 9223372036854775807) : bA.f (l.length + 1) l s = some (hasS l s) := by
 obtain ⟨r, hr, h⟩ := Mw l s hl l.length (l.length + 1) 0 (by omega) (by omega) (by omega)
 unfold bA.f bG.f
 rw [show bG.l0 (l.length + 1) l s (l.length : Int) 0 = some r from hr]
 simp only [Option.bind_some]
 rw [h]
 rfl
end Go.Proofs.Ytaofjgnhapnndaa.Q
