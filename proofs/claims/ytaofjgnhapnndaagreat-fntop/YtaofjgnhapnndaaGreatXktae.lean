/- Texts that the row needs: words on memory and rows, the contracts of the functions it reaches, and the plain lemmas on what they compute. -/
import Derived.Test.YtaofjgnhapnndaaGreatRows
import Derived.ProofKit
import Derived.Test.YtaofjgnhapnndaaGreatXktad
set_option maxHeartbeats 8000000
set_option maxRecDepth 100000
open Go.Proofs.YtaofjgnhapnndaaGreatFkt
namespace Go.Proofs.YtaofjgnhapnndaaGreat.Q
open Go.RowKit Go.Proofs.YtaofjgnhapnndaaGreatW.PrintWords Go.Proofs.YtaofjgnhapnndaaGreatW.PrintLast Go.Proofs.YtaofjgnhapnndaaGreatW.PrintMore
set_option linter.unusedVariables false
set_option linter.unusedSimpArgs false
theorem xD : ∀ (w r : List Char), (∀ c ∈ w, c ≠ Char.ofNat 32) → wordsSigns (w ++ Char.ofNat 32 :: r) = w :: wordsSigns r
  | [], r, _ => rfl
  | c :: w, r, h => by
    have ih := xD w r (fun d hd => h d (List.mem_cons_of_mem _ hd))
    have hc : c ≠ Char.ofNat 32 := h c List.mem_cons_self
    rw [List.cons_append, wordsSigns.eq_3 _ _ (fun e => hc e), ih]
theorem ko {a b : Bool} (ha : a = true) (hb : b = true) : (a && b) = true := by rw [ha, hb]; rfl
noncomputable def vN : List Char := List.map Char.ofNat [104, 97, 114, 110, 101, 115, 115, 32, 48, 49, 99, 57, 48, 52, 56, 98, 50, 101, 48, 50, 101, 102, 100, 101, 102, 49, 57, 52, 57, 49, 50, 54, 54, 102, 55, 99, 48, 56, 50, 48, 52, 55, 50, 55, 48, 55, 49, 52, 51, 97, 57, 57, 56, 98, 53, 52, 101, 57, 52, 48, 56, 55, 50, 100, 99, 101, 98, 99, 97, 52, 97, 56, 32, 99, 117, 116, 32, 97, 116, 32, 108, 111, 111, 112, 46, 101, 120, 97, 109, 112, 108, 101, 47, 109, 97, 108, 116, 115, 104, 97, 114, 101, 47, 108, 97, 119, 115, 46, 70, 110, 84, 111, 112]
theorem Ta : Tryz.prog.initOrder = String.ofList vN := by kernel_rfl
theorem Ga : Tryz.prog.initOrder.toList = vN := (congrArg String.toList Ta).trans String.toList_ofList
noncomputable def IJ : List Char := (vN.drop 8).take 64
theorem head_eq : vN = "harness".toList ++ Char.ofNat 32 :: (IJ ++ Char.ofNat 32 :: ("cut".toList ++ Char.ofNat 32 :: vN.drop 77)) := by kernel_rfl
theorem Y6 : (IJ.all fun c => c != Char.ofNat 32) = true := by kernel_rfl
theorem Y7 : isSumSigns IJ = true := by kernel_rfl
theorem P5 : ∃ R, behindMainWord (wordsSigns Tryz.prog.initOrder.toList) = "cut".toList :: R := by
 refine ⟨wordsSigns (vN.drop 77), ?_⟩
 have h1 : ∀ c ∈ "harness".toList, c ≠ Char.ofNat 32 := by decide
 have h3 : ∀ c ∈ "cut".toList, c ≠ Char.ofNat 32 := by decide
 have h2 : ∀ c ∈ IJ, c ≠ Char.ofNat 32 := fun c hc => by
   have := List.all_eq_true.1 Y6 c hc
   simpa using this
 have e : wordsSigns Tryz.prog.initOrder.toList = "harness".toList :: IJ :: "cut".toList :: wordsSigns (vN.drop 77) :=
   (congrArg wordsSigns (Ga.trans head_eq)).trans (by rw [xD _ _ h1, xD _ _ h2, xD _ _ h3])
 rw [e]
 generalize wordsSigns (vN.drop 77) = R
 unfold behindMainWord
 exact if_pos (by rw [Y7, beq_self_eq_true]; rfl)
theorem Js : "cut".toList = [Char.ofNat 99, Char.ofNat 117, Char.ofNat 116] := (String.toList_ofList : (String.ofList [Char.ofNat 99, Char.ofNat 117, Char.ofNat 116]).toList = _)
theorem l_gc : "gc".toList = [Char.ofNat 103, Char.ofNat 99] := (String.toList_ofList : (String.ofList [Char.ofNat 103, Char.ofNat 99]).toList = _)
theorem qc : "spec".toList = [Char.ofNat 115, Char.ofNat 112, Char.ofNat 101, Char.ofNat 99] := (String.toList_ofList : (String.ofList [Char.ofNat 115, Char.ofNat 112, Char.ofNat 101, Char.ofNat 99]).toList = _)
theorem VU : "carried".toList = [Char.ofNat 99, Char.ofNat 97, Char.ofNat 114, Char.ofNat 114, Char.ofNat 105, Char.ofNat 101, Char.ofNat 100] := (String.toList_ofList : (String.ofList [Char.ofNat 99, Char.ofNat 97, Char.ofNat 114, Char.ofNat 114, Char.ofNat 105, Char.ofNat 101, Char.ofNat 100]).toList = _)
theorem n_gc : ("cut".toList == "gc".toList) = false := by rw [Js, l_gc]; decide
theorem Sr : ("cut".toList == "spec".toList) = false := by rw [Js, qc]; decide
theorem Mi : ("cut".toList == "carried".toList) = false := by rw [Js, VU]; decide
theorem a4R : ("cut".toList == "cut".toList) = true := beq_self_eq_true _
theorem Fx (R : List (List Char)) : (("cut".toList :: R).head? == some "carried".toList) = false := by
 rw [List.head?_cons, Js, VU]; decide
theorem su (R : List (List Char)) : (("cut".toList :: R).head? == some "cut".toList) = true := by rw [List.head?_cons]; exact beq_self_eq_true _
theorem WC (R : List (List Char)) : stripLifts liftWords ("cut".toList :: R) = ([], "cut".toList :: R) := by rfl
theorem YL : Tryz.prog.laysLater = false := by kernel_rfl
theorem QH : Tryz.prog.bearsReflect = false := by kernel_rfl
theorem XQ : Tryz.prog.doorFits [] = true := by kernel_rfl
theorem Cg (P : Program) (R : List (List Char)) (h : behindMainWord (wordsSigns P.initOrder.toList) = "cut".toList :: R) (h1 : P.laysLater = false) (h2 : P.bearsReflect = false) (h3 : P.doorFits [] = true) : P.mayEnter = true := by
 unfold Program.mayEnter
 rw [h]
 simp only [WC, h1, h2, h3, n_gc, Sr, Mi, su]
 rfl
theorem Y5 (P : Program) (R : List (List Char)) (h : behindMainWord (wordsSigns P.initOrder.toList) = "cut".toList :: R) : P.headLifts = [] := by
 unfold Program.headLifts
 rw [h, WC]
 exact ite_self _
theorem UH (P : Program) (R : List (List Char)) (h : behindMainWord (wordsSigns P.initOrder.toList) = "cut".toList :: R) : P.liftsFinal = false := by
 unfold Program.liftsFinal
 rw [Y5 P R h, h]
 simp only [Fx]
 rfl
theorem Xu (P : Program) (R : List (List Char)) (h : behindMainWord (wordsSigns P.initOrder.toList) = "cut".toList :: R) : P.make = some .cut := by
 unfold Program.make
 rw [h]
 simp only [n_gc, Sr, a4R]
 rfl
theorem YN : Tryz.prog.mayEnter = true := by
 obtain ⟨R, h⟩ := P5
 exact Cg _ R h YL QH XQ
theorem UG : Tryz.prog.liftsFinal = false := by
 obtain ⟨R, h⟩ := P5
 exact UH _ R h
theorem Sn : Tryz.prog.make = some .cut := by
 obtain ⟨R, h⟩ := P5
 exact Xu _ R h
def xU.f (a0 : Int) (a1 : Int) (a2 : Int) : Option (Bool) := if a0 ≥ a1 then (some (decide (a0 ≤ a2))) else (some false)
theorem xU.calls (a0 : Int) (a1 : Int) (a2 : Int) (r : Bool) (w : World) (h : xU.f a0 a1 a2 = some r) :
  Calls Tryz.prog 66 #[.int .i64 a0, .int .i64 a1, .int .i64 a2] w fun e w' => e = .returned (.bool r) ∧ kX w w' := by
 unfold xU.f at h
 have H := h
 clear h
 by_cases c4 : a0 ≥ a1
 ·rw [if_pos c4] at H
  have CH : decide (a1 ≤ a0) = true := decide_eq_true c4
  clear c4
  obtain rfl := Option.some.inj H
  repeat clear H
  go_enter Tryz.func66, Tryz.ntmps66
  go_wp2
  go_ret
  exact ⟨by first | rfl | (simp; done) | (simp [*]; done), iB⟩
 rw [if_neg c4] at H
 have CH : decide (a1 ≤ a0) = false := decide_eq_false c4
 clear c4
 obtain rfl := Option.some.inj H
 repeat clear H
 go_enter Tryz.func66, Tryz.ntmps66
 go_wp2
 go_ret
 exact ⟨by first | rfl | (simp; done) | (simp [*]; done), iB⟩
def dF.l0 : Nat → ByteArray → Int → Option (Bool)
 | 0, _, _ => none
 | k + 1, b, a => if a < (b.size : Int) then (if 0 ≤ a then (if (bt b a) ≥ 97 then (if (bt b a) ≤ 122 then (dF.l0 k b (wrap64 (a + 1))) else (if (bt b a) ≥ 48 then (if (bt b a) ≤ 57 then (dF.l0 k b (wrap64 (a + 1))) else (if ((bt b a) = 45) then (dF.l0 k b (wrap64 (a + 1))) else (some false))) else (if ((bt b a) = 45) then (dF.l0 k b (wrap64 (a + 1))) else (some false)))) else (if (bt b a) ≥ 48 then (if (bt b a) ≤ 57 then (dF.l0 k b (wrap64 (a + 1))) else (if ((bt b a) = 45) then (dF.l0 k b (wrap64 (a + 1))) else (some false))) else (if ((bt b a) = 45) then (dF.l0 k b (wrap64 (a + 1))) else (some false)))) else (none)) else (some true)
def dF.f (k : Nat) (a0 : ByteArray) : Option (Bool) := (xU.f (a0.size : Int) 1 8).bind fun a => (if a = true then (dF.l0 k a0 0) else (some false))
theorem dF.calls (k : Nat) (a0 : ByteArray) (r : Bool) (w : World) (h : dF.f k a0 = some r) :
  Calls Tryz.prog 33 #[.string a0] w fun e w' => e = .returned (.bool r) ∧ kX w w' := by
 unfold dF.f at h
 have H := h
 clear h
 obtain ⟨PJ, A2, H⟩ := bd H
 refine tC H ?_ ?_ <;> clear H <;> intro c3 H <;> subst c3
 ·have H' := am H
  repeat clear H
  go_enter Tryz.func33, Tryz.ntmps33
  go_wp2_with (first | ((with_reducible refine gC 66 ?_); refine cQ (some 7) Tryz.func66 (xU.calls (a0.size : Int) 1 8 true _ A2.out) ?_; rintro w' ⟨nd, rfl⟩))
  go_loopg [3] k (fun kq v3 w' => ∃ (lL : Int), v3 = .int .i64 lL ∧ aC (dF.l0 kq a0 lL = some r) ∧ aC (kq ≤ k) ∧ kX w w')
  case atStart => exact ⟨(0), dU, H', ⟨Nat.le_refl _⟩, iB⟩
  clear H'
  try clear c3
  obtain ⟨lL, rfl, HA, HK1, ⟨m1, rfl⟩⟩ := hrel
  cases gk with
  | zero => exact absurd HA.out (by simp [dF.l0])
  | succ k1 =>
   have H := HA.out
   clear HA
   simp only [dF.l0] at H
   refine ic H ?_ ?_ <;> clear H <;> intro CH H
   ·obtain ⟨FT, H⟩ := cN H
    by_cases c7 : (bt a0 lL) ≥ 97
    ·rw [if_pos c7] at H
     have XF : decide (97 ≤ (bt a0 lL)) = true := decide_eq_true c7
     clear c7
     refine ic H ?_ ?_ <;> clear H <;> intro H3 H
     ·have H' := am H
      repeat clear H
      obtain ⟨Ut, p6, q6⟩ := aB a0 lL
      go_wp2
      go_roundg k1
      case measure => have := HK1.out; omega
      case rel => exact ⟨(wrap64 (lL + 1)), dU, H', ⟨by have := HK1.out; omega⟩, iB⟩
     ·by_cases c9 : (bt a0 lL) ≥ 48
      ·rw [if_pos c9] at H
       have FU : decide (48 ≤ (bt a0 lL)) = true := decide_eq_true c9
       clear c9
       refine ic H ?_ ?_ <;> clear H <;> intro I7 H
       ·have H' := am H
        repeat clear H
        obtain ⟨Ut, p6, q6⟩ := aB a0 lL
        go_wp2
        go_roundg k1
        case measure => have := HK1.out; omega
        case rel => exact ⟨(wrap64 (lL + 1)), dU, H', ⟨by have := HK1.out; omega⟩, iB⟩
       ·refine iq H ?_ ?_ <;> clear H <;> intro Ng I8 zw H
        ·have H' := am H
         repeat clear H
         obtain ⟨Ut, p6, q6⟩ := aB a0 lL
         go_wp2
         go_roundg k1
         case measure => have := HK1.out; omega
         case rel => exact ⟨(wrap64 (lL + 1)), dU, H', ⟨by have := HK1.out; omega⟩, iB⟩
        ·obtain rfl := Option.some.inj H
         repeat clear H
         obtain ⟨Ut, p6, q6⟩ := aB a0 lL
         go_wp2
         go_ret
         exact ⟨by first | rfl | (simp; done) | (simp [*]; done), iB⟩
      ·rw [if_neg c9] at H
       have FU : decide (48 ≤ (bt a0 lL)) = false := decide_eq_false c9
       clear c9
       refine iq H ?_ ?_ <;> clear H <;> intro c12 SU zx H
       ·have H' := am H
        repeat clear H
        obtain ⟨Ut, p6, q6⟩ := aB a0 lL
        go_wp2
        go_roundg k1
        case measure => have := HK1.out; omega
        case rel => exact ⟨(wrap64 (lL + 1)), dU, H', ⟨by have := HK1.out; omega⟩, iB⟩
       ·obtain rfl := Option.some.inj H
        repeat clear H
        obtain ⟨Ut, p6, q6⟩ := aB a0 lL
        go_wp2
        go_ret
        exact ⟨by first | rfl | (simp; done) | (simp [*]; done), iB⟩
    ·rw [if_neg c7] at H
     have XF : decide (97 ≤ (bt a0 lL)) = false := decide_eq_false c7
     clear c7
     by_cases Lb : (bt a0 lL) ≥ 48
     ·rw [if_pos Lb] at H
      have VI : decide (48 ≤ (bt a0 lL)) = true := decide_eq_true Lb
      clear Lb
      refine ic H ?_ ?_ <;> clear H <;> intro Aj H
      ·have H' := am H
       repeat clear H
       obtain ⟨Ut, p6, q6⟩ := aB a0 lL
       go_wp2
       go_roundg k1
       case measure => have := HK1.out; omega
       case rel => exact ⟨(wrap64 (lL + 1)), dU, H', ⟨by have := HK1.out; omega⟩, iB⟩
      ·refine iq H ?_ ?_ <;> clear H <;> intro ls Ak aJX H
       ·have H' := am H
        repeat clear H
        obtain ⟨Ut, p6, q6⟩ := aB a0 lL
        go_wp2
        go_roundg k1
        case measure => have := HK1.out; omega
        case rel => exact ⟨(wrap64 (lL + 1)), dU, H', ⟨by have := HK1.out; omega⟩, iB⟩
       ·obtain rfl := Option.some.inj H
        repeat clear H
        obtain ⟨Ut, p6, q6⟩ := aB a0 lL
        go_wp2
        go_ret
        exact ⟨by first | rfl | (simp; done) | (simp [*]; done), iB⟩
     ·rw [if_neg Lb] at H
      have VI : decide (48 ≤ (bt a0 lL)) = false := decide_eq_false Lb
      clear Lb
      refine iq H ?_ ?_ <;> clear H <;> intro Al GY Qr H
      ·have H' := am H
       repeat clear H
       obtain ⟨Ut, p6, q6⟩ := aB a0 lL
       go_wp2
       go_roundg k1
       case measure => have := HK1.out; omega
       case rel => exact ⟨(wrap64 (lL + 1)), dU, H', ⟨by have := HK1.out; omega⟩, iB⟩
      ·obtain rfl := Option.some.inj H
       repeat clear H
       obtain ⟨Ut, p6, q6⟩ := aB a0 lL
       go_wp2
       go_ret
       exact ⟨by first | rfl | (simp; done) | (simp [*]; done), iB⟩
   ·obtain rfl := Option.some.inj H
    repeat clear H
    go_wp2
    go_ret
    exact ⟨by first | rfl | (simp; done) | (simp [*]; done), iB⟩
 obtain rfl := Option.some.inj H
 repeat clear H
 go_enter Tryz.func33, Tryz.ntmps33
 go_wp2_with (first | ((with_reducible refine gC 66 ?_); refine cQ (some 7) Tryz.func66 (xU.calls (a0.size : Int) 1 8 false _ A2.out) ?_; rintro w' ⟨nd, rfl⟩))
 go_ret
 exact ⟨by first | rfl | (simp; done) | (simp [*]; done), iB⟩
def eP.l0 : Nat → List ByteArray → ByteArray → Int → Option (Bool)
 | 0, _, _, _ => none
 | k + 1, b, c, a => if a < (b.length : Int) then (if 0 ≤ a then (if (rdOf ByteArray.empty b a).toList = c.toList then (some true) else (eP.l0 k b c (wrap64 (a + 1)))) else (none)) else (some false)
def eP.f (k : Nat) (l0 : List ByteArray) (a1 : ByteArray) : Option (Bool) := eP.l0 k l0 a1 0
theorem eP.calls (k : Nat) (A0 : Option Addr) (c0 : Nat) (l0 : List ByteArray) (a1 : ByteArray) (r : Bool) (w : World) (tM : Kd.C Kd.string w A0 l0.length l0) (yO : l0.length ≤ c0) (h : eP.f k l0 a1 = some r) :
  Calls Tryz.prog 46 #[.slice A0 l0.length c0, .string a1] w fun e w' => e = .returned (.bool r) ∧ kX w w' := by
 obtain ⟨tV, S0⟩ := mZ2 tM yO
 clear tM yO
 unfold eP.f at h
 have H := h
 clear h
 have H' := am H
 repeat clear H
 go_enter Tryz.func46, Tryz.ntmps46
 go_wp2
 go_loopg [5] k (fun kq v5 w' => ∃ (bR : Int), v5 = .int .i64 bR ∧ aC (eP.l0 kq l0 a1 bR = some r) ∧ aC (kq ≤ k) ∧ kX w w')
 case atStart => exact ⟨(0), dU, H', ⟨Nat.le_refl _⟩, iB⟩
 clear H'
 obtain ⟨bR, rfl, HA, HK1, ⟨m1, rfl⟩⟩ := hrel
 cases gk with
 | zero => exact absurd HA.out (by simp [eP.l0])
 | succ k1 =>
  have H := HA.out
  clear HA
  simp only [eP.l0] at H
  refine ic H ?_ ?_ <;> clear H <;> intro FS H
  ·obtain ⟨CH, H⟩ := cN H
   refine iq H ?_ ?_ <;> clear H <;> intro c5 FT aCF H
   ·obtain rfl := Option.some.inj H
    repeat clear H
    obtain ⟨kM, oE, lH, yE, yH⟩ := aS tV b0 bR
    cases oE
    go_wp2
    go_ret
    exact ⟨by first | rfl | (simp; done) | (simp [*]; done), iB⟩
   ·have H' := am H
    repeat clear H
    obtain ⟨kM, oE, lH, yE, yH⟩ := aS tV b0 bR
    cases oE
    go_wp2
    go_roundg k1
    case measure => have := HK1.out; omega
    case rel => exact ⟨(wrap64 (bR + 1)), dU, H', ⟨by have := HK1.out; omega⟩, iB⟩
  ·obtain rfl := Option.some.inj H
   repeat clear H
   go_wp2
   go_ret
   exact ⟨by first | rfl | (simp; done) | (simp [*]; done), iB⟩
def dI.l0 : Nat → List ByteArray → List ByteArray → Int → Option (Bool)
 | 0, _, _, _ => none
 | k + 1, b, c, a => if a < (b.length : Int) then (if 0 ≤ a then ((eP.f k c (rdOf ByteArray.empty b a)).bind fun d => (if d = true then (if a > 0 then (if 0 ≤ (wrap64 (a - 1)) then (if (wrap64 (a - 1)) < (b.length : Int) then (if ((Op.bytesLess ((rdOf ByteArray.empty b (wrap64 (a - 1))).toList) ((rdOf ByteArray.empty b a).toList)) = true) then (dI.l0 k b c (wrap64 (a + 1))) else (some false)) else (none)) else (none)) else (dI.l0 k b c (wrap64 (a + 1)))) else (some false))) else (none)) else (some true)
def dI.f (k : Nat) (l0 : List ByteArray) (l1 : List ByteArray) : Option (Bool) := dI.l0 k l0 l1 0
theorem dI.calls (k : Nat) (A0 : Option Addr) (c0 : Nat) (l0 : List ByteArray) (A1 : Option Addr) (c1 : Nat) (l1 : List ByteArray) (r : Bool) (w : World) (tM : Kd.C Kd.string w A0 l0.length l0) (yO : l0.length ≤ c0) (H5 : Kd.C Kd.string w A1 l1.length l1) (H4 : l1.length ≤ c1) (h : dI.f k l0 l1 = some r) :
  Calls Tryz.prog 34 #[.slice A0 l0.length c0, .slice A1 l1.length c1] w fun e w' => e = .returned (.bool r) ∧ kX w w' := by
 obtain ⟨tV, S0⟩ := mZ2 tM yO
 obtain ⟨HH, KY⟩ := mZ2 H5 H4
 clear tM yO H5 H4
 unfold dI.f at h
 have H := h
 clear h
 have H' := am H
 repeat clear H
 go_enter Tryz.func34, Tryz.ntmps34
 go_wp2
 repeat (go_quiet (fail); try go_wp2)
 go_loopg [5] k (fun kq v5 w' => ∃ (bR : Int), v5 = .int .i64 bR ∧ aC (dI.l0 kq l0 l1 bR = some r) ∧ aC (kq ≤ k) ∧ kX w w')
 case atStart => exact ⟨(0), dU, H', ⟨Nat.le_refl _⟩, iB⟩
 clear H'
 try clear c1
 obtain ⟨bR, rfl, HA, HK1, ⟨m1, rfl⟩⟩ := hrel
 cases gk with
 | zero => exact absurd HA.out (by simp [dI.l0])
 | succ k1 =>
  have H := HA.out
  clear HA
  simp only [dI.l0] at H
  refine ic H ?_ ?_ <;> clear H <;> intro FS H
  obtain ⟨CH, H⟩ := cN H
  obtain ⟨vA, A5, H⟩ := bd H
  refine tC H ?_ ?_ <;> clear H <;> intro c6 H <;> subst c6
  by_cases c7 : bR > 0
  rw [if_pos c7] at H
  have XF : decide (0 < bR) = true := decide_eq_true c7
  clear c7
  obtain ⟨ji8, hji8⟩ : ∃ j_ : Int, (wrap64 (bR - 1)) = j_ := ⟨_, rfl⟩
  replace H : (if 0 ≤ (ji8) then (if (ji8) < (l0.length : Int) then (if ((Op.bytesLess ((rdOf ByteArray.empty l0 (ji8)).toList) ((rdOf ByteArray.empty l0 bR).toList)) = true) then (dI.l0 k1 l0 l1 (wrap64 (bR + 1))) else (some false)) else (none)) else (none)) = some r := by first | (rw [hji8] at H; exact H) | (simp only [hji8] at H ⊢; exact H)
  (try rw [hji8] at A5)
  have hji8w : (IntKind.i64.wrap (bR - 1)) = ji8 := (sD _).trans hji8
  obtain ⟨FU, H⟩ := cN H
  obtain ⟨I7, H⟩ := cN H
  refine tC H ?_ ?_ <;> clear H <;> intro I8 H
  have H' := am H
  repeat clear H
  obtain ⟨kM, oE, lH, yE, yH⟩ := aS tV b0 bR
  cases oE
  have M0_ := trivial
  rotate_left
  obtain rfl := Option.some.inj H
  repeat clear H
  obtain ⟨kM, oE, lH, yE, yH⟩ := aS tV b0 bR
  cases oE
  have M0_ := trivial
  rotate_left
  rw [if_neg c7] at H
  have XF : decide (0 < bR) = false := decide_eq_false c7
  clear c7
  have H' := am H
  repeat clear H
  obtain ⟨kM, oE, lH, yE, yH⟩ := aS tV b0 bR
  cases oE
  have M1_ := trivial
  rotate_left
  obtain rfl := Option.some.inj H
  repeat clear H
  obtain ⟨kM, oE, lH, yE, yH⟩ := aS tV b0 bR
  cases oE
  have M2_ := trivial
  rotate_left
  obtain rfl := Option.some.inj H
  repeat clear H
  rotate_left
  all_goals
   go_wp2_with (first | (go_at_call 46; revert M0_; intro M0_; revert A5; intro A5; refine cM (eP.calls k1 _ _ l1 (rdOf ByteArray.empty l0 bR) true _ (pC HH.1) KY.1 A5.out) ?_; rintro w' ⟨nd, rfl⟩; (try exact dR); obtain ⟨pK, zG, sA, G7, GA⟩ := aS tV b0 (ji8); obtain rfl : kM = pK := (by injection zG); obtain ⟨kS, tY, nD, G8, GB⟩ := aS tV b0 bR; obtain rfl : kM = kS := (by injection tY); clear A5) | (go_at_call 46; revert M1_; intro M1_; revert A5; intro A5; refine cM (eP.calls k1 _ _ l1 (rdOf ByteArray.empty l0 bR) true _ (pC HH.1) KY.1 A5.out) ?_; rintro w' ⟨nd, rfl⟩; (try exact dR); clear A5) | (go_at_call 46; revert M2_; intro M2_; revert A5; intro A5; refine cM (eP.calls k1 _ _ l1 (rdOf ByteArray.empty l0 bR) false _ (pC HH.1) KY.1 A5.out) ?_; rintro w' ⟨nd, rfl⟩; (try exact dR); clear A5))
  ·repeat (go_quiet (first | (go_at_call 46; refine cM (eP.calls k1 _ _ l1 (rdOf ByteArray.empty l0 bR) true _ (pC HH.1) KY.1 A5.out) ?_; rintro w' ⟨nd, rfl⟩; (try exact dR); obtain ⟨pK, zG, sA, G7, GA⟩ := aS tV b0 (ji8); obtain rfl : kM = pK := (by injection zG); obtain ⟨kS, tY, nD, G8, GB⟩ := aS tV b0 bR; obtain rfl : kM = kS := (by injection tY))); try go_wp2_with (first | (go_at_call 46; refine cM (eP.calls k1 _ _ l1 (rdOf ByteArray.empty l0 bR) true _ (pC HH.1) KY.1 A5.out) ?_; rintro w' ⟨nd, rfl⟩; (try exact dR); obtain ⟨pK, zG, sA, G7, GA⟩ := aS tV b0 (ji8); obtain rfl : kM = pK := (by injection zG); obtain ⟨kS, tY, nD, G8, GB⟩ := aS tV b0 bR; obtain rfl : kM = kS := (by injection tY))))
   go_roundg k1
   case measure => have := HK1.out; omega
   case rel => exact ⟨(wrap64 (bR + 1)), dU, H', ⟨by have := HK1.out; omega⟩, iB⟩
  ·repeat (go_quiet (first | (go_at_call 46; refine cM (eP.calls k1 _ _ l1 (rdOf ByteArray.empty l0 bR) true _ (pC HH.1) KY.1 A5.out) ?_; rintro w' ⟨nd, rfl⟩; (try exact dR); obtain ⟨pK, zG, sA, G7, GA⟩ := aS tV b0 (ji8); obtain rfl : kM = pK := (by injection zG); obtain ⟨kS, tY, nD, G8, GB⟩ := aS tV b0 bR; obtain rfl : kM = kS := (by injection tY))); try go_wp2_with (first | (go_at_call 46; refine cM (eP.calls k1 _ _ l1 (rdOf ByteArray.empty l0 bR) true _ (pC HH.1) KY.1 A5.out) ?_; rintro w' ⟨nd, rfl⟩; (try exact dR); obtain ⟨pK, zG, sA, G7, GA⟩ := aS tV b0 (ji8); obtain rfl : kM = pK := (by injection zG); obtain ⟨kS, tY, nD, G8, GB⟩ := aS tV b0 bR; obtain rfl : kM = kS := (by injection tY))))
   go_ret
   exact ⟨by first | rfl | (simp; done) | (simp only [← hji8] <;> (first | rfl | simp)) | (simp [*]; done), iB⟩
  ·repeat (go_quiet (first | (go_at_call 46; refine cM (eP.calls k1 _ _ l1 (rdOf ByteArray.empty l0 bR) true _ (pC HH.1) KY.1 A5.out) ?_; rintro w' ⟨nd, rfl⟩; (try exact dR))); try go_wp2_with (first | (go_at_call 46; refine cM (eP.calls k1 _ _ l1 (rdOf ByteArray.empty l0 bR) true _ (pC HH.1) KY.1 A5.out) ?_; rintro w' ⟨nd, rfl⟩; (try exact dR))))
   go_roundg k1
   case measure => have := HK1.out; omega
   case rel => exact ⟨(wrap64 (bR + 1)), dU, H', ⟨by have := HK1.out; omega⟩, iB⟩
  ·repeat (go_quiet (first | (go_at_call 46; refine cM (eP.calls k1 _ _ l1 (rdOf ByteArray.empty l0 bR) false _ (pC HH.1) KY.1 A5.out) ?_; rintro w' ⟨nd, rfl⟩; (try exact dR))); try go_wp2_with (first | (go_at_call 46; refine cM (eP.calls k1 _ _ l1 (rdOf ByteArray.empty l0 bR) false _ (pC HH.1) KY.1 A5.out) ?_; rintro w' ⟨nd, rfl⟩; (try exact dR))))
   go_ret
   exact ⟨by first | rfl | (simp; done) | (simp [*]; done), iB⟩
  ·repeat (go_quiet (fail); try go_wp2)
   go_ret
   exact ⟨by first | rfl | (simp; done) | (simp [*]; done), iB⟩
def fV.l0 : Nat → List ByteArray → Int → Option (Bool)
 | 0, _, _ => none
 | k + 1, b, a => if a < (b.length : Int) then (if 0 ≤ a then ((dF.f k (rdOf ByteArray.empty b a)).bind fun c => (if c = true then (if a > 0 then (if 0 ≤ (wrap64 (a - 1)) then (if (wrap64 (a - 1)) < (b.length : Int) then (if ((Op.bytesLess ((rdOf ByteArray.empty b (wrap64 (a - 1))).toList) ((rdOf ByteArray.empty b a).toList)) = true) then (fV.l0 k b (wrap64 (a + 1))) else (some false)) else (none)) else (none)) else (fV.l0 k b (wrap64 (a + 1)))) else (some false))) else (none)) else (some true)
def fV.f (k : Nat) (l0 : List ByteArray) : Option (Bool) := if (l0.length : Int) > 8 then (some false) else (fV.l0 k l0 0)
theorem fV.calls (k : Nat) (A0 : Option Addr) (c0 : Nat) (l0 : List ByteArray) (r : Bool) (w : World) (tM : Kd.C Kd.string w A0 l0.length l0) (yO : l0.length ≤ c0) (h : fV.f k l0 = some r) :
  Calls Tryz.prog 64 #[.slice A0 l0.length c0] w fun e w' => e = .returned (.bool r) ∧ kX w w' := by
 obtain ⟨tV, S0⟩ := mZ2 tM yO
 clear tM yO
 unfold fV.f at h
 have H := h
 clear h
 by_cases c2 : (l0.length : Int) > 8
 ·rw [if_pos c2] at H
  have OX : decide (8 < (l0.length : Int)) = true := decide_eq_true c2
  have XE : decide (8 < l0.length) = true := decide_eq_true (by omega)
  clear c2
  obtain rfl := Option.some.inj H
  repeat clear H
  go_enter Tryz.func64, Tryz.ntmps64
  go_wp2
  repeat (go_quiet (fail); try go_wp2)
  go_ret
  exact ⟨by first | rfl | (simp; done) | (simp [*]; done), iB⟩
 rw [if_neg c2] at H
 have OX : decide (8 < (l0.length : Int)) = false := decide_eq_false c2
 have XE : decide (8 < l0.length) = false := decide_eq_false (by omega)
 clear c2
 have H' := am H
 repeat clear H
 go_enter Tryz.func64, Tryz.ntmps64
 go_wp2
 repeat (go_quiet (fail); try go_wp2)
 go_loopg [3] k (fun kq v3 w' => ∃ (lL : Int), v3 = .int .i64 lL ∧ aC (fV.l0 kq l0 lL = some r) ∧ aC (kq ≤ k) ∧ kX w w')
 case atStart => exact ⟨(0), dU, H', ⟨Nat.le_refl _⟩, iB⟩
 clear H'
 try clear c2
 try clear OX
 try clear XE
 obtain ⟨lL, rfl, HA, HK1, ⟨m1, rfl⟩⟩ := hrel
 cases gk with
 | zero => exact absurd HA.out (by simp [fV.l0])
 | succ k1 =>
  have H := HA.out
  clear HA
  simp only [fV.l0] at H
  refine ic H ?_ ?_ <;> clear H <;> intro FS H
  obtain ⟨CH, H⟩ := cN H
  obtain ⟨vA, A5, H⟩ := bd H
  refine tC H ?_ ?_ <;> clear H <;> intro c6 H <;> subst c6
  by_cases c7 : lL > 0
  rw [if_pos c7] at H
  have XF : decide (0 < lL) = true := decide_eq_true c7
  clear c7
  obtain ⟨ji8, hji8⟩ : ∃ j_ : Int, (wrap64 (lL - 1)) = j_ := ⟨_, rfl⟩
  replace H : (if 0 ≤ (ji8) then (if (ji8) < (l0.length : Int) then (if ((Op.bytesLess ((rdOf ByteArray.empty l0 (ji8)).toList) ((rdOf ByteArray.empty l0 lL).toList)) = true) then (fV.l0 k1 l0 (wrap64 (lL + 1))) else (some false)) else (none)) else (none)) = some r := by first | (rw [hji8] at H; exact H) | (simp only [hji8] at H ⊢; exact H)
  (try rw [hji8] at A5)
  have hji8w : (IntKind.i64.wrap (lL - 1)) = ji8 := (sD _).trans hji8
  obtain ⟨FU, H⟩ := cN H
  obtain ⟨I7, H⟩ := cN H
  refine tC H ?_ ?_ <;> clear H <;> intro I8 H
  have H' := am H
  repeat clear H
  obtain ⟨kM, oE, lH, yE, yH⟩ := aS tV b0 lL
  cases oE
  have M6_ := trivial
  rotate_left
  obtain rfl := Option.some.inj H
  repeat clear H
  obtain ⟨kM, oE, lH, yE, yH⟩ := aS tV b0 lL
  cases oE
  have M6_ := trivial
  rotate_left
  rw [if_neg c7] at H
  have XF : decide (0 < lL) = false := decide_eq_false c7
  clear c7
  have H' := am H
  repeat clear H
  obtain ⟨kM, oE, lH, yE, yH⟩ := aS tV b0 lL
  cases oE
  have M7_ := trivial
  rotate_left
  obtain rfl := Option.some.inj H
  repeat clear H
  obtain ⟨kM, oE, lH, yE, yH⟩ := aS tV b0 lL
  cases oE
  have M8_ := trivial
  rotate_left
  obtain rfl := Option.some.inj H
  repeat clear H
  rotate_left
  all_goals
   go_wp2_with (first | (go_at_call 33; revert M6_; intro M6_; revert A5; intro A5; refine cM (dF.calls k1 (rdOf ByteArray.empty l0 lL) true _ A5.out) ?_; rintro w' ⟨nd, rfl⟩; (try exact dR); obtain ⟨pK, zG, sA, G7, GA⟩ := aS tV b0 (ji8); obtain rfl : kM = pK := (by injection zG); obtain ⟨kS, tY, nD, G8, GB⟩ := aS tV b0 lL; obtain rfl : kM = kS := (by injection tY); clear A5) | (go_at_call 33; revert M7_; intro M7_; revert A5; intro A5; refine cM (dF.calls k1 (rdOf ByteArray.empty l0 lL) true _ A5.out) ?_; rintro w' ⟨nd, rfl⟩; (try exact dR); clear A5) | (go_at_call 33; revert M8_; intro M8_; revert A5; intro A5; refine cM (dF.calls k1 (rdOf ByteArray.empty l0 lL) false _ A5.out) ?_; rintro w' ⟨nd, rfl⟩; (try exact dR); clear A5))
  ·repeat (go_quiet (first | (go_at_call 33; refine cM (dF.calls k1 (rdOf ByteArray.empty l0 lL) true _ A5.out) ?_; rintro w' ⟨nd, rfl⟩; (try exact dR); obtain ⟨pK, zG, sA, G7, GA⟩ := aS tV b0 (ji8); obtain rfl : kM = pK := (by injection zG); obtain ⟨kS, tY, nD, G8, GB⟩ := aS tV b0 lL; obtain rfl : kM = kS := (by injection tY))); try go_wp2_with (first | (go_at_call 33; refine cM (dF.calls k1 (rdOf ByteArray.empty l0 lL) true _ A5.out) ?_; rintro w' ⟨nd, rfl⟩; (try exact dR); obtain ⟨pK, zG, sA, G7, GA⟩ := aS tV b0 (ji8); obtain rfl : kM = pK := (by injection zG); obtain ⟨kS, tY, nD, G8, GB⟩ := aS tV b0 lL; obtain rfl : kM = kS := (by injection tY))))
   go_roundg k1
   case measure => have := HK1.out; omega
   case rel => exact ⟨(wrap64 (lL + 1)), dU, H', ⟨by have := HK1.out; omega⟩, iB⟩
  ·repeat (go_quiet (first | (go_at_call 33; refine cM (dF.calls k1 (rdOf ByteArray.empty l0 lL) true _ A5.out) ?_; rintro w' ⟨nd, rfl⟩; (try exact dR); obtain ⟨pK, zG, sA, G7, GA⟩ := aS tV b0 (ji8); obtain rfl : kM = pK := (by injection zG); obtain ⟨kS, tY, nD, G8, GB⟩ := aS tV b0 lL; obtain rfl : kM = kS := (by injection tY))); try go_wp2_with (first | (go_at_call 33; refine cM (dF.calls k1 (rdOf ByteArray.empty l0 lL) true _ A5.out) ?_; rintro w' ⟨nd, rfl⟩; (try exact dR); obtain ⟨pK, zG, sA, G7, GA⟩ := aS tV b0 (ji8); obtain rfl : kM = pK := (by injection zG); obtain ⟨kS, tY, nD, G8, GB⟩ := aS tV b0 lL; obtain rfl : kM = kS := (by injection tY))))
   go_ret
   exact ⟨by first | rfl | (simp; done) | (simp only [← hji8] <;> (first | rfl | simp)) | (simp [*]; done), iB⟩
  ·repeat (go_quiet (first | (go_at_call 33; refine cM (dF.calls k1 (rdOf ByteArray.empty l0 lL) true _ A5.out) ?_; rintro w' ⟨nd, rfl⟩; (try exact dR))); try go_wp2_with (first | (go_at_call 33; refine cM (dF.calls k1 (rdOf ByteArray.empty l0 lL) true _ A5.out) ?_; rintro w' ⟨nd, rfl⟩; (try exact dR))))
   go_roundg k1
   case measure => have := HK1.out; omega
   case rel => exact ⟨(wrap64 (lL + 1)), dU, H', ⟨by have := HK1.out; omega⟩, iB⟩
  ·repeat (go_quiet (first | (go_at_call 33; refine cM (dF.calls k1 (rdOf ByteArray.empty l0 lL) false _ A5.out) ?_; rintro w' ⟨nd, rfl⟩; (try exact dR))); try go_wp2_with (first | (go_at_call 33; refine cM (dF.calls k1 (rdOf ByteArray.empty l0 lL) false _ A5.out) ?_; rintro w' ⟨nd, rfl⟩; (try exact dR))))
   go_ret
   exact ⟨by first | rfl | (simp; done) | (simp [*]; done), iB⟩
  ·repeat (go_quiet (fail); try go_wp2)
   go_ret
   exact ⟨by first | rfl | (simp; done) | (simp [*]; done), iB⟩
def fI.l0 : Nat → List ByteArray → List ByteArray → Int → Option (Bool)
 | 0, _, _, _ => none
 | k + 1, b, c, a => if a < (b.length : Int) then (if 0 ≤ a then ((eP.f k c (rdOf ByteArray.empty b a)).bind fun d => (if d = true then (some true) else (fI.l0 k b c (wrap64 (a + 1))))) else (none)) else (some false)
def fI.f (k : Nat) (l0 : List ByteArray) (l1 : List ByteArray) : Option (Bool) := fI.l0 k l0 l1 0
theorem fI.calls (k : Nat) (A0 : Option Addr) (c0 : Nat) (l0 : List ByteArray) (A1 : Option Addr) (c1 : Nat) (l1 : List ByteArray) (r : Bool) (w : World) (tM : Kd.C Kd.string w A0 l0.length l0) (yO : l0.length ≤ c0) (H5 : Kd.C Kd.string w A1 l1.length l1) (H4 : l1.length ≤ c1) (h : fI.f k l0 l1 = some r) :
  Calls Tryz.prog 65 #[.slice A0 l0.length c0, .slice A1 l1.length c1] w fun e w' => e = .returned (.bool r) ∧ kX w w' := by
 obtain ⟨tV, S0⟩ := mZ2 tM yO
 obtain ⟨HH, KY⟩ := mZ2 H5 H4
 clear tM yO H5 H4
 unfold fI.f at h
 have H := h
 clear h
 have H' := am H
 repeat clear H
 go_enter Tryz.func65, Tryz.ntmps65
 go_wp2
 go_loopg [5] k (fun kq v5 w' => ∃ (bR : Int), v5 = .int .i64 bR ∧ aC (fI.l0 kq l0 l1 bR = some r) ∧ aC (kq ≤ k) ∧ kX w w')
 case atStart => exact ⟨(0), dU, H', ⟨Nat.le_refl _⟩, iB⟩
 clear H'
 try clear c1
 obtain ⟨bR, rfl, HA, HK1, ⟨m1, rfl⟩⟩ := hrel
 cases gk with
 | zero => exact absurd HA.out (by simp [fI.l0])
 | succ k1 =>
  have H := HA.out
  clear HA
  simp only [fI.l0] at H
  refine ic H ?_ ?_ <;> clear H <;> intro FS H
  ·obtain ⟨CH, H⟩ := cN H
   obtain ⟨vA, A5, H⟩ := bd H
   refine tC H ?_ ?_ <;> clear H <;> intro c6 H <;> subst c6
   ·obtain rfl := Option.some.inj H
    repeat clear H
    obtain ⟨kM, oE, lH, yE, yH⟩ := aS tV b0 bR
    cases oE
    go_wp2_with (first | ((with_reducible refine gC 46 ?_); refine cQ (some 17) Tryz.func46 (eP.calls k1 _ _ l1 (rdOf ByteArray.empty l0 bR) true _ (pC HH.1) KY.1 A5.out) ?_; rintro w' ⟨nd, rfl⟩))
    go_ret
    exact ⟨by first | rfl | (simp; done) | (simp [*]; done), iB⟩
   ·have H' := am H
    repeat clear H
    obtain ⟨kM, oE, lH, yE, yH⟩ := aS tV b0 bR
    cases oE
    go_wp2_with (first | ((with_reducible refine gC 46 ?_); refine cQ (some 17) Tryz.func46 (eP.calls k1 _ _ l1 (rdOf ByteArray.empty l0 bR) false _ (pC HH.1) KY.1 A5.out) ?_; rintro w' ⟨nd, rfl⟩))
    go_roundg k1
    case measure => have := HK1.out; omega
    case rel => exact ⟨(wrap64 (bR + 1)), dU, H', ⟨by have := HK1.out; omega⟩, iB⟩
  ·obtain rfl := Option.some.inj H
   repeat clear H
   go_wp2
   go_ret
   exact ⟨by first | rfl | (simp; done) | (simp [*]; done), iB⟩
mutual
def aN.j0 : Nat → Bool → List ByteArray → List (S52) → Option (Bool)
 | 0, _, _, _ => none
 | k + 1, a, b, c => if a = true then (some false) else (aN.l0 k 0 b c)
def aN.l0 : Nat → Int → List ByteArray → List (S52) → Option (Bool)
 | 0, _, _, _ => none
 | k + 1, a, c, b => if a < (b.length : Int) then (if 0 ≤ a then ((dF.f k ((aA b a).f0)).bind fun d => (if d = true then (if a > 0 then (if 0 ≤ (wrap64 (a - 1)) then (if (wrap64 (a - 1)) < (b.length : Int) then (if ((Op.bytesLess (((aA b (wrap64 (a - 1))).f0).toList) (((aA b a).f0).toList)) = true) then ((dI.f k ((aA b a).f2) c).bind fun e => (if e = true then ((dI.f k ((aA b a).f1) ((aA b a).f2)).bind fun g => (aN.j2 k a (!g) c b ((aA b a).f0) ((aA b a).f1) ((aA b a).f2))) else (aN.j2 k a true c b ((aA b a).f0) ((aA b a).f1) ((aA b a).f2)))) else (aN.j2 k a true c b ((aA b a).f0) ((aA b a).f1) ((aA b a).f2))) else (none)) else (none)) else ((dI.f k ((aA b a).f2) c).bind fun h => (if h = true then ((dI.f k ((aA b a).f1) ((aA b a).f2)).bind fun i => (aN.j2 k a (!i) c b ((aA b a).f0) ((aA b a).f1) ((aA b a).f2))) else (aN.j2 k a true c b ((aA b a).f0) ((aA b a).f1) ((aA b a).f2))))) else (aN.j2 k a true c b ((aA b a).f0) ((aA b a).f1) ((aA b a).f2)))) else (none)) else (some true)
def aN.j2 : Nat → Int → Bool → List ByteArray → List (S52) → ByteArray → List ByteArray → List ByteArray → Option (Bool)
 | 0, _, _, _, _, _, _, _ => none
 | k + 1, a, b, c, d, e, f, g => if b = true then (some false) else (aN.l1 k a 0 c d e f g)
def aN.l1 : Nat → Int → Int → List ByteArray → List (S52) → ByteArray → List ByteArray → List ByteArray → Option (Bool)
 | 0, _, _, _, _, _, _, _ => none
 | k + 1, c, a, d, b, g, e, h => if a < c then (if 0 ≤ a then (if a < (b.length : Int) then ((fI.f k e ((aA b a).f1)).bind fun i => (if i = true then (some false) else (aN.l1 k c (wrap64 (a + 1)) d b g e h))) else (none)) else (none)) else (aN.l0 k (wrap64 (c + 1)) d b)
end
def aN.f (k : Nat) (aZ : List ByteArray) (aI : List (S52)) : Option (Bool) := (fV.f k aZ).bind fun a => (if a = true then (aN.j0 k (decide ((aI.length : Int) > 5)) aZ aI) else (aN.j0 k true aZ aI))
def aN.T7 : Bool × List (List Nat × List Nat) := (true, [([], []), ([0], [0]), ([1], [1]), ([2], [2]), ([3, 2], [3]), ([4], [4]), ([5, 4], [4, 5]), ([6, 4, 4], [4, 6]), ([7], [7]), ([8, 7], [7, 8]), ([7], [7]), ([10, 7], [7, 10]), ([9, 11, 7], [7, 9, 11]), ([12, 7], [7, 12]), ([13, 7], [7, 13]), ([7], [7]), ([15, 7], [7, 15]), ([14, 16, 7], [7, 14, 16]), ([7, 17, 4], [4, 7, 17]), ([4, 18], [4, 18]), ([19, 7], [19]), ([20], [20]), ([21, 20], [20, 21]), ([20], [20]), ([23, 20], [20, 23]), ([22, 24, 20, 20], [20, 22, 24]), ([25, 20], [20, 25]), ([20, 26], [20, 26]), ([27, 25], [27]), ([28], [28]), ([29, 28], [28, 29]), ([28], [28]), ([31, 28], [28, 31]), ([30, 32, 28, 28], [28, 30, 32]), ([33, 28], [28, 33]), ([28, 34], [28, 34])])
def aN.B7 : List Nat := [0, 1, 3, 7, 15, 31, 63, 127, 255, 511, 255, 1279, 4095, 8191, 16383, 255, 33023, 131071, 262143, 524287, 1048575, 2097151, 4194303, 2097151, 10485759, 33554431, 67108863, 134217727, 268435455, 536870911, 1073741823, 536870911, 2684354559, 8589934591, 17179869183, 34359738367]
theorem aN.tab7 : rtab .any (opsOf Tryz.f31 7) = aN.T7 := by kernel_rfl
theorem aN.KJ : o5 aN.T7.2 aN.B7 = true := by kernel_rfl
def aN.T12 : Bool × List (List Nat × List Nat) := (true, [([], []), ([0], [0]), ([], []), ([2], [2]), ([], []), ([3, 4], [3, 4]), ([5], [5]), ([6], [6]), ([1, 7], [1, 7])])
def aN.B12 : List Nat := [0, 1, 0, 4, 0, 28, 60, 124, 255]
theorem aN.ek : rtab .any (opsOf Tryz.f31 12) = aN.T12 := by kernel_rfl
theorem aN.Qc : o5 aN.T12.2 aN.B12 = true := by kernel_rfl
theorem aN.calls (k : Nat) (eE : Option Addr) (eF : Nat) (aZ : List ByteArray) (eV : Option Addr) (eC : Nat) (aI : List (S52)) (r : Bool) (w : World) (gP : Kd.C Kd.string w eE aZ.length aZ) (gN : aZ.length ≤ eF) (gK : Kd.C k52 w eV aI.length aI) (gO : aI.length ≤ eC) (h : aN.f k aZ aI = some r) :
  Calls Tryz.prog 31 #[.agg #[.slice eE aZ.length eF, .slice eV aI.length eC]] w fun e w' => e = .returned (.bool r) ∧ Below w.heap.size w w' := by
 have hu26 := Tryz.underlying26
 have hu52 := Tryz.underlying52
 obtain ⟨dT, dS⟩ := mZ2 gP gN
 obtain ⟨bV, eS⟩ := mZ2 gK gO
 clear gP gN gK gO
 have HB := am (Below.refl w.heap.size w)
 unfold aN.f at h
 have H := h
 clear h
 have yN := am H
 clear H
 go_enter Tryz.func31, Tryz.ntmps31
 go_upto_region 1 with (first | ((with_reducible refine gD 1 ?_); (try (refine vL (by rfl) ?_; dsimp only)); refine bX 1 #[.slice eE aZ.length eF, .slice eV aI.length eC] 26 ?_; intro aW hg w3 hbox hb; have a6 := am hbox; have iS := am (u4 : w.heap.size ≤ aW); have j5 := iS; replace HB := bS iJ hb; clear hb hbox hg))
 (try simp only [Act.put, List.setIfInBounds_toArray, List.set_cons_zero, List.set_cons_succ])
 go_cut [15] (fun v15 wc => ∃ (kq : Nat) (Uf : Bool), v15 = .bool Uf ∧ aC (aN.j0 kq Uf aZ aI = some r) ∧ aC (kq ≤ k) ∧ aC (wc.heap[aW]? = some (.cells #[(.slice eE aZ.length eF), (.slice eV aI.length eC)] 26 (0, 0))) ∧ aC (Below w.heap.size w wc))
 case first =>
  have H := yN.1
  clear yN
  obtain ⟨vA, A4, H⟩ := bd H
  refine tC H ?_ ?_ <;> clear H <;> intro c5 H <;> subst c5
  ·have H' := am H
   repeat clear H
   have Z6 := cz2 a6
   go_wp2_with (first | ((with_reducible refine gC 64 ?_); refine cQ (some 8) Tryz.func64 (fV.calls k _ _ aZ true _ (pB dT) dS.1 A4.out) ?_; rintro w' ⟨nd, rfl⟩))
   go_meet
   exact ⟨_, (decide ((aI.length : Int) > 5)), dU, H', ⟨by first | omega | exact Nat.le_refl _⟩, ⟨rB a6.1⟩, ⟨fH⟩⟩
  have H' := am H
  repeat clear H
  have Z7 := cz2 a6
  go_wp2_with (first | ((with_reducible refine gC 64 ?_); refine cQ (some 8) Tryz.func64 (fV.calls k _ _ aZ false _ (pB dT) dS.1 A4.out) ?_; rintro w' ⟨nd, rfl⟩))
  go_meet
  exact ⟨_, (true), dU, H', ⟨by first | omega | exact Nat.le_refl _⟩, ⟨rB a6.1⟩, ⟨fH⟩⟩
 clear yN
 obtain ⟨kq, Uf, rfl, HA, HJ1, a6, HB⟩ := hcut
 cases kq with
 | zero => exact absurd HA.out (by simp [aN.j0])
 | succ kj1 =>
  have H := HA.out
  clear HA
  simp only [aN.j0] at H
  refine tC H ?_ ?_ <;> (repeat clear H) <;> intro c8 H <;> subst c8
  ·obtain rfl := Option.some.inj H
   repeat clear H
   go_wp2
   go_ret
   exact ⟨eR, fH⟩
  ·have H' := am H
   repeat clear H
   go_wp2
   go_loopg [3] kj1 (fun kq v3 w' => ∃ (iP : Int), v3 = .int .i64 iP ∧ aC (aN.l0 kq iP aZ aI = some r) ∧ aC (kq ≤ kj1) ∧ aC (w'.heap[aW]? = some (.cells #[(.slice eE aZ.length eF), (.slice eV aI.length eC)] 26 (0, 0))) ∧ aC (Below w.heap.size w w'))
   case atStart => exact ⟨(0), dU, H', ⟨Nat.le_refl _⟩, ⟨rB a6.1⟩, ⟨fH⟩⟩
   case round =>
    clear H'
    try clear c8
    obtain ⟨iP, rfl, HA, HK2, a6, HB⟩ := hrel
    cases gk with
    | zero => exact absurd HA.out (by simp [aN.l0])
    | succ k2 =>
     have H := HA.out
     clear HA
     simp only [aN.l0] at H
     refine ic H ?_ ?_ <;> clear H <;> intro FU H
     ·obtain ⟨I7, H⟩ := cN H
      have Dw := am H
      clear H
      have Ur := cz2 a6
      obtain ⟨pK, H8, I5, H9, I6, zG, sA, a9G, a9H, R3, QX, J2, IZ, G7, GA⟩ := aT52 bV HB iP
      cases zG
      go_upto_region 7 with (first | ((with_reducible refine gD 4 ?_); (try (refine vL (by rfl) ?_; dsimp only)); refine bX 4 #[.string (⟨#[]⟩ : ByteArray), .slice none 0 0, .slice none 0 0] 52 ?_; intro MW hg Na hbox hb; have iQ := am hbox; have vp := am (EF : w.heap.size ≤ MW); have RY := vp; replace HB := bS fH hb; have rG := nL d3 hg; have rI := nG d3 hg; replace a6 := bB d3 hb; clear hb hbox hg; have Z14 := nZ1 rI rG; have yo := cz3 iQ))
      (try simp only [Act.put, List.setIfInBounds_toArray, List.set_cons_zero, List.set_cons_succ])
      go_cut [63] (fun v63 wc => ∃ (kq : Nat) (Gt : Bool), v63 = .bool Gt ∧ aC (aN.j2 kq iP Gt aZ aI ((aA aI iP).f0) ((aA aI iP).f1) ((aA aI iP).f2) = some r) ∧ aC (kq ≤ k2) ∧ aC (wc.heap[aW]? = some (.cells #[(.slice eE aZ.length eF), (.slice (some pK) aI.length eC)] 26 (0, 0))) ∧ aC (wc.heap[MW]? = some (.cells #[.string ((aA aI iP).f0), (.slice H8 ((aA aI iP).f1).length I5), (.slice H9 ((aA aI iP).f2).length I6)] 52 (0, 0))) ∧ aC (Below w.heap.size w wc))
      case first =>
       have H := Dw.1
       clear Dw
       obtain ⟨mV, Up, H⟩ := bd H
       refine tC H ?_ ?_ <;> clear H <;> intro c17 H <;> subst c17
       ·by_cases Ld : iP > 0
        ·rw [if_pos Ld] at H
         have I9 : decide (0 < iP) = true := decide_eq_true Ld
         clear Ld
         (first | rw [I9] | (simp only [sD, wV]; rw [I9]) | skip)
         obtain ⟨ji19, hji19⟩ : ∃ j_ : Int, (wrap64 (iP - 1)) = j_ := ⟨_, rfl⟩
         replace H : (if 0 ≤ (ji19) then (if (ji19) < (aI.length : Int) then (if ((Op.bytesLess (((aA aI (ji19)).f0).toList) (((aA aI iP).f0).toList)) = true) then ((dI.f k2 ((aA aI iP).f2) aZ).bind fun bM => (if bM = true then ((dI.f k2 ((aA aI iP).f1) ((aA aI iP).f2)).bind fun QQ => (aN.j2 k2 iP (!QQ) aZ aI ((aA aI iP).f0) ((aA aI iP).f1) ((aA aI iP).f2))) else (aN.j2 k2 iP true aZ aI ((aA aI iP).f0) ((aA aI iP).f1) ((aA aI iP).f2)))) else (aN.j2 k2 iP true aZ aI ((aA aI iP).f0) ((aA aI iP).f1) ((aA aI iP).f2))) else (none)) else (none)) = some r := by first | (rw [hji19] at H; exact H) | (simp only [hji19] at H ⊢; exact H)
         (try rw [hji19] at Up)
         have hji19w : (IntKind.i64.wrap (iP - 1)) = ji19 := (sD _).trans hji19
         obtain ⟨a00, H⟩ := cN H
         obtain ⟨bg, H⟩ := cN H
         refine tC H ?_ ?_ <;> clear H <;> intro a02 H
         ·obtain ⟨bM, Gw, H⟩ := bd H
          refine tC H ?_ ?_ <;> clear H <;> intro El H <;> subst El
          ·obtain ⟨QQ, A25, H⟩ := bd H
           have H' := am H
           repeat clear H
           try go_wp2
           obtain ⟨w26, eW_⟩ := eW3 Na MW (.string ((aA aI iP).f0)) (.slice H8 ((aA aI iP).f1).length I5) (.slice H9 ((aA aI iP).f2).length I6)
           rw [← eW_]
           replace a6 := uF3 eW_ a6 rG
           replace iQ := uP3 eW_ iQ
           replace HB := uC3 eW_ HB RY
           clear eW_
           replace a6 := BD a6
           replace iQ := BD iQ
           replace HB := am (aY HB.1)
           obtain ⟨tO, qG, qL, sK, sL, zH, nY, nZ, o0, oA, o1, o2, o9, tU, qS, x5, K1, F9⟩ := qK bV HB (ji19)
           obtain rfl : pK = tO := (by injection zH)
           refine sT [] 36 (uB3 iQ (uB2 a6 (uBx HB nY (uBx HB nZ (uAx HB o0))))) (fun hHeld => ?_)
           refine fP aN.tab7 aN.KJ (fun HT_ HW_ => ?_)
           generalize w26.drew = w27 at a6 iQ HB o9 qS oA o1 o2 hHeld ⊢
           refine pU1 0 ?_
           refine tK8 1 (some 29) ?_
           refine oN 2 (some 30) fun K hK => ?_
           refine gQ Tryz.func33 (dF.calls k2 ((aA aI iP).f0) true _ Up.out) ?_
           rintro w' ⟨nd, rfl⟩
           refine nK hK (uB3 iQ (uB2 a6 (uBx HB nY (uBx HB nZ (uAx HB o0))))).1 fun hHeld => ?_
           clear hK K
           refine pU8 3 4 5 6 7 8 10 11 ?_
           refine pU1 15 ?_
           refine tK8 9 (some 37) ?_
           refine pU2 12 13 ?_
           refine tK8 14 (some 42) ?_
           refine tK8 16 (some 44) ?_
           refine pU6 17 18 19 20 21 23 ?_
           refine tK8 22 (some 50) ?_
           refine tK8 24 (some 52) ?_
           refine oN 25 (some 53) fun K hK => ?_
           refine gQ Tryz.func34 (dI.calls k2 _ _ ((aA aI iP).f2) _ _ aZ true _ ((Kd.aU J2.1 CT)) IZ.1 ((Kd.aU dT.1 CT)) dS.1 Gw.out) ?_
           rintro w' ⟨nd, rfl⟩
           refine nK hK (uB3 iQ (uB2 a6 (uBx HB nY (uBx HB nZ (uAx HB o0))))).1 fun hHeld => ?_
           clear hK K
           refine pU5 26 27 28 29 31 ?_
           refine tK8 30 (some 58) ?_
           refine tK8 32 (some 60) ?_
           refine oN 33 (some 61) fun K hK => ?_
           refine gQ Tryz.func34 (dI.calls k2 _ _ ((aA aI iP).f1) _ _ ((aA aI iP).f2) QQ _ ((Kd.aU R3.1 CT)) QX.1 ((Kd.aU J2.1 CT)) IZ.1 A25.out) ?_
           rintro w' ⟨nd, rfl⟩
           refine nK hK (uB3 iQ (uB2 a6 (uBx HB nY (uBx HB nZ (uAx HB o0))))).1 fun hHeld => ?_
           clear hK K
           refine pU2 34 35 ?_
           refine dN ?_
           try go_wp2
           go_meet
           case rel => exact ⟨_, (!QQ), dU, H', ⟨by have := HJ1.out; have := HK2.out; first | omega | exact Nat.le_refl _⟩, ⟨rB a6.1⟩, ⟨rB iQ.1⟩, ⟨CT⟩⟩
          ·have H' := am H
           repeat clear H
           try go_wp2
           obtain ⟨w28, eW_⟩ := eW3 Na MW (.string ((aA aI iP).f0)) (.slice H8 ((aA aI iP).f1).length I5) (.slice H9 ((aA aI iP).f2).length I6)
           rw [← eW_]
           replace a6 := uF3 eW_ a6 rG
           replace iQ := uP3 eW_ iQ
           replace HB := uC3 eW_ HB RY
           clear eW_
           replace a6 := BD a6
           replace iQ := BD iQ
           replace HB := am (aY HB.1)
           obtain ⟨tO, qG, qL, sK, sL, zH, nY, nZ, o0, oA, o1, o2, o9, tU, qS, x5, K1, F9⟩ := qK bV HB (ji19)
           obtain rfl : pK = tO := (by injection zH)
           refine sT [] 36 (uB3 iQ (uB2 a6 (uBx HB nY (uBx HB nZ (uAx HB o0))))) (fun hHeld => ?_)
           refine fP aN.tab7 aN.KJ (fun HT_ HW_ => ?_)
           generalize w28.drew = w29 at a6 iQ HB o9 qS oA o1 o2 hHeld ⊢
           refine pU1 0 ?_
           refine tK8 1 (some 29) ?_
           refine oN 2 (some 30) fun K hK => ?_
           refine gQ Tryz.func33 (dF.calls k2 ((aA aI iP).f0) true _ Up.out) ?_
           rintro w' ⟨nd, rfl⟩
           refine nK hK (uB3 iQ (uB2 a6 (uBx HB nY (uBx HB nZ (uAx HB o0))))).1 fun hHeld => ?_
           clear hK K
           refine pU8 3 4 5 6 7 8 10 11 ?_
           refine pU1 15 ?_
           refine tK8 9 (some 37) ?_
           refine pU2 12 13 ?_
           refine tK8 14 (some 42) ?_
           refine tK8 16 (some 44) ?_
           refine pU6 17 18 19 20 21 23 ?_
           refine tK8 22 (some 50) ?_
           refine tK8 24 (some 52) ?_
           refine oN 25 (some 53) fun K hK => ?_
           refine gQ Tryz.func34 (dI.calls k2 _ _ ((aA aI iP).f2) _ _ aZ false _ ((Kd.aU J2.1 CT)) IZ.1 ((Kd.aU dT.1 CT)) dS.1 Gw.out) ?_
           rintro w' ⟨nd, rfl⟩
           refine nK hK (uB3 iQ (uB2 a6 (uBx HB nY (uBx HB nZ (uAx HB o0))))).1 fun hHeld => ?_
           clear hK K
           refine pU3 26 27 28 ?_
           refine pV6 29 30 31 32 33 34 ?_
           refine pU1 35 ?_
           refine dN ?_
           try go_wp2
           go_meet
           case rel => exact ⟨_, (true), dU, H', ⟨by have := HJ1.out; have := HK2.out; first | omega | exact Nat.le_refl _⟩, ⟨rB a6.1⟩, ⟨rB iQ.1⟩, ⟨CT⟩⟩
         ·have H' := am H
          repeat clear H
          try go_wp2
          obtain ⟨w30, eW_⟩ := eW3 Na MW (.string ((aA aI iP).f0)) (.slice H8 ((aA aI iP).f1).length I5) (.slice H9 ((aA aI iP).f2).length I6)
          rw [← eW_]
          replace a6 := uF3 eW_ a6 rG
          replace iQ := uP3 eW_ iQ
          replace HB := uC3 eW_ HB RY
          clear eW_
          replace a6 := BD a6
          replace iQ := BD iQ
          replace HB := am (aY HB.1)
          obtain ⟨tO, qG, qL, sK, sL, zH, nY, nZ, o0, oA, o1, o2, o9, tU, qS, x5, K1, F9⟩ := qK bV HB (ji19)
          obtain rfl : pK = tO := (by injection zH)
          refine sT [] 36 (uB3 iQ (uB2 a6 (uBx HB nY (uBx HB nZ (uAx HB o0))))) (fun hHeld => ?_)
          refine fP aN.tab7 aN.KJ (fun HT_ HW_ => ?_)
          generalize w30.drew = se at a6 iQ HB o9 qS oA o1 o2 hHeld ⊢
          refine pU1 0 ?_
          refine tK8 1 (some 29) ?_
          refine oN 2 (some 30) fun K hK => ?_
          refine gQ Tryz.func33 (dF.calls k2 ((aA aI iP).f0) true _ Up.out) ?_
          rintro w' ⟨nd, rfl⟩
          refine nK hK (uB3 iQ (uB2 a6 (uBx HB nY (uBx HB nZ (uAx HB o0))))).1 fun hHeld => ?_
          clear hK K
          refine pU8 3 4 5 6 7 8 10 11 ?_
          refine pU1 15 ?_
          refine tK8 9 (some 37) ?_
          refine pU2 12 13 ?_
          refine tK8 14 (some 42) ?_
          refine tK8 16 (some 44) ?_
          refine pU4 17 18 19 20 ?_
          refine pV6 21 22 23 24 25 26 ?_
          refine pU2 27 28 ?_
          refine pV6 29 30 31 32 33 34 ?_
          refine pU1 35 ?_
          refine dN ?_
          try go_wp2
          go_meet
          case rel => exact ⟨_, (true), dU, H', ⟨by have := HJ1.out; have := HK2.out; first | omega | exact Nat.le_refl _⟩, ⟨rB a6.1⟩, ⟨rB iQ.1⟩, ⟨CT⟩⟩
        ·rw [if_neg Ld] at H
         have I9 : decide (0 < iP) = false := decide_eq_false Ld
         clear Ld
         (first | rw [I9] | (simp only [sD, wV]; rw [I9]) | skip)
         obtain ⟨CY, sw, H⟩ := bd H
         refine tC H ?_ ?_ <;> clear H <;> intro c33 H <;> subst c33
         ·obtain ⟨ZB, A34, H⟩ := bd H
          have H' := am H
          repeat clear H
          try go_wp2
          obtain ⟨w35, eW_⟩ := eW3 Na MW (.string ((aA aI iP).f0)) (.slice H8 ((aA aI iP).f1).length I5) (.slice H9 ((aA aI iP).f2).length I6)
          rw [← eW_]
          replace a6 := uF3 eW_ a6 rG
          replace iQ := uP3 eW_ iQ
          replace HB := uC3 eW_ HB RY
          clear eW_
          replace a6 := BD a6
          replace iQ := BD iQ
          replace HB := am (aY HB.1)
          refine sT [] 36 (uB3 iQ (uA2 a6)) (fun hHeld => ?_)
          refine fP aN.tab7 aN.KJ (fun HT_ HW_ => ?_)
          generalize w35.drew = w36 at a6 iQ HB hHeld ⊢
          refine pU1 0 ?_
          refine tK5 1 (some 29) ?_
          refine oN 2 (some 30) fun K hK => ?_
          refine gQ Tryz.func33 (dF.calls k2 ((aA aI iP).f0) true _ Up.out) ?_
          rintro w' ⟨nd, rfl⟩
          refine nK hK (uB3 iQ (uA2 a6)).1 fun hHeld => ?_
          clear hK K
          refine pU5 3 4 5 6 7 ?_
          refine pV8 8 9 10 11 12 13 14 15 ?_
          refine pV2 16 17 ?_
          refine pU5 18 19 20 21 23 ?_
          refine tK5 22 (some 50) ?_
          refine tK5 24 (some 52) ?_
          refine oN 25 (some 53) fun K hK => ?_
          refine gQ Tryz.func34 (dI.calls k2 _ _ ((aA aI iP).f2) _ _ aZ true _ ((Kd.aU J2.1 CT)) IZ.1 ((Kd.aU dT.1 CT)) dS.1 sw.out) ?_
          rintro w' ⟨nd, rfl⟩
          refine nK hK (uB3 iQ (uA2 a6)).1 fun hHeld => ?_
          clear hK K
          refine pU5 26 27 28 29 31 ?_
          refine tK5 30 (some 58) ?_
          refine tK5 32 (some 60) ?_
          refine oN 33 (some 61) fun K hK => ?_
          refine gQ Tryz.func34 (dI.calls k2 _ _ ((aA aI iP).f1) _ _ ((aA aI iP).f2) ZB _ ((Kd.aU R3.1 CT)) QX.1 ((Kd.aU J2.1 CT)) IZ.1 A34.out) ?_
          rintro w' ⟨nd, rfl⟩
          refine nK hK (uB3 iQ (uA2 a6)).1 fun hHeld => ?_
          clear hK K
          refine pU2 34 35 ?_
          refine dN ?_
          try go_wp2
          go_meet
          case rel => exact ⟨_, (!ZB), dU, H', ⟨by have := HJ1.out; have := HK2.out; first | omega | exact Nat.le_refl _⟩, ⟨rB a6.1⟩, ⟨rB iQ.1⟩, ⟨CT⟩⟩
         ·have H' := am H
          repeat clear H
          try go_wp2
          obtain ⟨w37, eW_⟩ := eW3 Na MW (.string ((aA aI iP).f0)) (.slice H8 ((aA aI iP).f1).length I5) (.slice H9 ((aA aI iP).f2).length I6)
          rw [← eW_]
          replace a6 := uF3 eW_ a6 rG
          replace iQ := uP3 eW_ iQ
          replace HB := uC3 eW_ HB RY
          clear eW_
          replace a6 := BD a6
          replace iQ := BD iQ
          replace HB := am (aY HB.1)
          refine sT [] 36 (uB3 iQ (uA2 a6)) (fun hHeld => ?_)
          refine fP aN.tab7 aN.KJ (fun HT_ HW_ => ?_)
          generalize w37.drew = w38 at a6 iQ HB hHeld ⊢
          refine pU1 0 ?_
          refine tK5 1 (some 29) ?_
          refine oN 2 (some 30) fun K hK => ?_
          refine gQ Tryz.func33 (dF.calls k2 ((aA aI iP).f0) true _ Up.out) ?_
          rintro w' ⟨nd, rfl⟩
          refine nK hK (uB3 iQ (uA2 a6)).1 fun hHeld => ?_
          clear hK K
          refine pU5 3 4 5 6 7 ?_
          refine pV8 8 9 10 11 12 13 14 15 ?_
          refine pV2 16 17 ?_
          refine pU5 18 19 20 21 23 ?_
          refine tK5 22 (some 50) ?_
          refine tK5 24 (some 52) ?_
          refine oN 25 (some 53) fun K hK => ?_
          refine gQ Tryz.func34 (dI.calls k2 _ _ ((aA aI iP).f2) _ _ aZ false _ ((Kd.aU J2.1 CT)) IZ.1 ((Kd.aU dT.1 CT)) dS.1 sw.out) ?_
          rintro w' ⟨nd, rfl⟩
          refine nK hK (uB3 iQ (uA2 a6)).1 fun hHeld => ?_
          clear hK K
          refine pU3 26 27 28 ?_
          refine pV6 29 30 31 32 33 34 ?_
          refine pU1 35 ?_
          refine dN ?_
          try go_wp2
          go_meet
          case rel => exact ⟨_, (true), dU, H', ⟨by have := HJ1.out; have := HK2.out; first | omega | exact Nat.le_refl _⟩, ⟨rB a6.1⟩, ⟨rB iQ.1⟩, ⟨CT⟩⟩
       ·have H' := am H
        repeat clear H
        try go_wp2
        obtain ⟨w39, eW_⟩ := eW3 Na MW (.string ((aA aI iP).f0)) (.slice H8 ((aA aI iP).f1).length I5) (.slice H9 ((aA aI iP).f2).length I6)
        rw [← eW_]
        replace a6 := uF3 eW_ a6 rG
        replace iQ := uP3 eW_ iQ
        replace HB := uC3 eW_ HB RY
        clear eW_
        replace a6 := BD a6
        replace iQ := BD iQ
        replace HB := am (aY HB.1)
        refine sT [] 36 (uA3 iQ) (fun hHeld => ?_)
        refine fP aN.tab7 aN.KJ (fun HT_ HW_ => ?_)
        generalize w39.drew = w40 at a6 iQ HB hHeld ⊢
        refine pU1 0 ?_
        refine tK3 1 (some 29) ?_
        refine oN 2 (some 30) fun K hK => ?_
        refine gQ Tryz.func33 (dF.calls k2 ((aA aI iP).f0) false _ Up.out) ?_
        rintro w' ⟨nd, rfl⟩
        refine nK hK (uA3 iQ).1 fun hHeld => ?_
        clear hK K
        refine pU2 3 4 ?_
        refine pV8 5 6 7 8 9 10 11 12 ?_
        refine pV6 13 14 15 16 17 18 ?_
        refine pU2 19 20 ?_
        refine pV6 21 22 23 24 25 26 ?_
        refine pU2 27 28 ?_
        refine pV6 29 30 31 32 33 34 ?_
        refine pU1 35 ?_
        refine dN ?_
        try go_wp2
        go_meet
        case rel => exact ⟨_, (true), dU, H', ⟨by have := HJ1.out; have := HK2.out; first | omega | exact Nat.le_refl _⟩, ⟨rB a6.1⟩, ⟨rB iQ.1⟩, ⟨CT⟩⟩
      case rest =>
       clear Dw
       obtain ⟨kq, Gt, rfl, HA, WW, a6, iQ, HB⟩ := hcut
       cases kq with
       | zero => exact absurd HA.out (by simp [aN.j2])
       | succ kj10 =>
        have H := HA.out
        clear HA
        simp only [aN.j2] at H
        refine tC H ?_ ?_ <;> (repeat clear H) <;> intro c41 H <;> subst c41
        ·obtain rfl := Option.some.inj H
         repeat clear H
         go_wp2
         go_ret
         exact ⟨eR, CT⟩
        ·have H' := am H
         repeat clear H
         go_wp2
         go_loopg [5] kj10 (fun kq v5 w' => ∃ (Df : Int), v5 = .int .i64 Df ∧ aC (aN.l1 kq iP Df aZ aI ((aA aI iP).f0) ((aA aI iP).f1) ((aA aI iP).f2) = some r) ∧ aC (kq ≤ kj10) ∧ aC (w'.heap[aW]? = some (.cells #[(.slice eE aZ.length eF), (.slice (some pK) aI.length eC)] 26 (0, 0))) ∧ aC (w'.heap[MW]? = some (.cells #[.string ((aA aI iP).f0), (.slice H8 ((aA aI iP).f1).length I5), (.slice H9 ((aA aI iP).f2).length I6)] 52 (0, 0))) ∧ aC (Below w.heap.size w w'))
         case atStart => exact ⟨(0), dU, H', ⟨Nat.le_refl _⟩, ⟨rB a6.1⟩, ⟨rB iQ.1⟩, ⟨CT⟩⟩
         case round =>
          clear H'
          try clear c41
          obtain ⟨Df, rfl, HA, HK4, a6, iQ, HB⟩ := hrel
          cases gk with
          | zero => exact absurd HA.out (by simp [aN.l1])
          | succ k4 =>
           have H := HA.out
           clear HA
           simp only [aN.l1] at H
           refine ic H ?_ ?_ <;> clear H <;> intro Qu H
           ·obtain ⟨aKC, H⟩ := cN H
            obtain ⟨aKD, H⟩ := cN H
            obtain ⟨PK, A45, H⟩ := bd H
            refine tC H ?_ ?_ <;> clear H <;> intro bn H <;> subst bn
            ·obtain rfl := Option.some.inj H
             repeat clear H
             try go_wp2
             replace a6 := BD a6
             replace iQ := BD iQ
             replace HB := am (aY HB.1)
             obtain ⟨qZ, WI, XA, l8, lI, TC, N7, N8, N9, DO, y9, xC, DG, J0, kZ, xZ, TR, TW⟩ := qK bV HB Df
             obtain rfl : pK = qZ := (by injection TC)
             refine sT [] 9 (uB3 iQ (uB2 a6 (uBx HB N7 (uBx HB N8 (uAx HB N9))))) (fun hHeld => ?_)
             refine fP aN.ek aN.Qc (fun HT_ HW_ => ?_)
             generalize wr.drew = w47 at a6 iQ HB DG kZ DO y9 xC hHeld ⊢
             refine pU3 0 2 4 ?_
             refine tK8 1 (some 70) ?_
             refine tK8 3 (some 72) ?_
             refine pU2 5 6 ?_
             refine tK8 7 (some 76) ?_
             refine oN 8 (some 77) fun K hK => ?_
             refine gQ Tryz.func65 (fI.calls k4 _ _ ((aA aI iP).f1) _ _ ((aA aI Df).f1) true _ (pB R3) QX.1 (pB DG) J0.1 A45.out) ?_
             rintro w' ⟨nd, rfl⟩
             refine nK hK (uB3 iQ (uB2 a6 (uBx HB N7 (uBx HB N8 (uAx HB N9))))).1 fun hHeld => ?_
             clear hK K
             refine dN ?_
             try go_wp2
             go_ret
             exact ⟨eR, CT⟩
            ·have H' := am H
             repeat clear H
             try go_wp2
             replace a6 := BD a6
             replace iQ := BD iQ
             replace HB := am (aY HB.1)
             obtain ⟨qZ, WI, XA, l8, lI, TC, N7, N8, N9, DO, y9, xC, DG, J0, kZ, xZ, TR, TW⟩ := qK bV HB Df
             obtain rfl : pK = qZ := (by injection TC)
             refine sT [] 9 (uB3 iQ (uB2 a6 (uBx HB N7 (uBx HB N8 (uAx HB N9))))) (fun hHeld => ?_)
             refine fP aN.ek aN.Qc (fun HT_ HW_ => ?_)
             generalize wr.drew = w48 at a6 iQ HB DG kZ DO y9 xC hHeld ⊢
             refine pU3 0 2 4 ?_
             refine tK8 1 (some 70) ?_
             refine tK8 3 (some 72) ?_
             refine pU2 5 6 ?_
             refine tK8 7 (some 76) ?_
             refine oN 8 (some 77) fun K hK => ?_
             refine gQ Tryz.func65 (fI.calls k4 _ _ ((aA aI iP).f1) _ _ ((aA aI Df).f1) false _ (pB R3) QX.1 (pB DG) J0.1 A45.out) ?_
             rintro w' ⟨nd, rfl⟩
             refine nK hK (uB3 iQ (uB2 a6 (uBx HB N7 (uBx HB N8 (uAx HB N9))))).1 fun hHeld => ?_
             clear hK K
             refine dN ?_
             try go_wp2
             go_roundg k4
             case measure => have := HJ1.out; have := HK2.out; have := WW.out; have := HK4.out; omega
             case rel => exact ⟨(wrap64 (Df + 1)), dU, H', ⟨by have := HJ1.out; have := HK2.out; have := WW.out; have := HK4.out; omega⟩, ⟨rB a6.1⟩, ⟨rB iQ.1⟩, ⟨CT⟩⟩
           ·have H' := am H
            repeat clear H
            go_wp2
            go_roundg k4
            case measure => have := HJ1.out; have := HK2.out; have := WW.out; have := HK4.out; omega
            case rel => exact ⟨(wrap64 (iP + 1)), dU, H', ⟨by have := HJ1.out; have := HK2.out; have := WW.out; have := HK4.out; omega⟩, ⟨rB a6.1⟩, ⟨CT⟩⟩
     ·obtain rfl := Option.some.inj H
      repeat clear H
      have Z49 := cz2 a6
      go_wp2
      go_ret
      exact ⟨eR, fH⟩
end Go.Proofs.YtaofjgnhapnndaaGreat.Q
namespace Go.Proofs.YtaofjgnhapnndaaGreat.Q
open Go.RowKit Go.Proofs.YtaofjgnhapnndaaGreatW.PrintWords Go.Proofs.YtaofjgnhapnndaaGreatW.PrintLast Go.Proofs.YtaofjgnhapnndaaGreatW.PrintMore
set_option linter.unusedVariables false
set_option linter.unusedSimpArgs false
def jE.f (l0 : List ByteArray) : Option (List ByteArray) := (some (([] : List ByteArray) : List ByteArray)).bind fun a => (if a.length + l0.length < 8796093022208 then (some (a ++ l0)) else (none))
theorem jE.calls (A0 : Option Addr) (c0 : Nat) (l0 : List ByteArray) (r : List ByteArray) (w : World) (tM : Kd.C Kd.string w A0 l0.length l0) (yO : l0.length ≤ c0) (h : jE.f l0 = some r) :
  Calls Tryz.prog 36 #[.slice A0 l0.length c0] w fun e w' => ∃ v0_ : Value, e = .returned (v0_) ∧ Kd.R Kd.string 9 w' w.heap.size (fun _ => True) v0_ r ∧ Below w.heap.size w w' := by
 obtain ⟨tV, S0⟩ := mZ2 tM yO
 clear tM yO
 have HB := am (Below.refl w.heap.size w)
 unfold jE.f at h
 have H := h
 clear h
 obtain ⟨Dg, hy101⟩ : ∃ y_ : List ByteArray, y_ = (([] : List ByteArray)) := ⟨_, rfl⟩
 replace H : (if Dg.length + l0.length < 8796093022208 then (some (Dg ++ l0)) else (none)) = some r := by first | (rw [hy101]; with_reducible exact H) | (have H2_ := (Option.bind_some _ _).symm.trans H; rw [hy101]; with_reducible exact H2_) | (have H2_ := (Option.bind_some _ _).symm.trans H; with_reducible exact H2_) | with_reducible exact H | (rw [hy101]; exact H) | exact H
 have SA := am hy101
 clear hy101
 obtain ⟨aB2, H⟩ := cL H
 obtain ⟨aUT, Pi⟩ := yv (Dg ++ l0); first | replace H := bW Pi H | rw [← Pi.1] at H
 obtain rfl := Option.some.inj H
 repeat clear H
 go_enter Tryz.func36, Tryz.ntmps36
 go_wp2_with (first | ((with_reducible refine jW (N := 3) rfl ?_); refine lS 9 3 SA ?_; intro Cz w3 ho4 hb; have DC := am (Kd.dO ho4 (aG iJ)); replace HB := bS iJ hb; clear hb ho4) | ((with_reducible refine lQ (b := .append) (xs := #[.tmp 3, .tmp 4]) rfl ?_); at_builtin; refine Kd.E5 Kd.string (w0 := w) w.heap.size rfl (.tmp 3) (.tmp 4) 23 9 (.string ⟨#[]⟩) 16 rfl Tryz.underlying23 sQ rfl (by decide) (by omega) Cz Dg l0 _ _ _ (fun _ => True) (fun _ => False) rfl rfl ?aO ?aR (fun _ _ h => h) (fun _ h => h.elim) ?aF ?aB ?aS ?aL ?_; (case aR => repeat (first | exact (Kd.aU tV.1 HB.1) | (with_reducible refine Kd.nW ?_ _) | (with_reducible refine Kd.nX ?_ _) | (with_reducible refine Kd.pO ?_))); (case aB => exact iJ); (case aF => exact (fun _ _ => trivial)); (case aO => exact (rR DC.1)); (case aS => exact (aG iJ)); (case aL => have := aB2.out; omega); intro H6 w5 ho hb hg hat; rw [← Pi.out] at ho; replace HB := am hb; have gG := am ho; clear DC; clear ho hb hg hat))
 go_ret
 exact ⟨_, eR, rR gG.1, iJ⟩
def dP.l0 : Nat → Int → List ByteArray → List (S52) → List ByteArray → List (S52) → Option (List ByteArray × (List (S52)))
 | 0, _, _, _, _, _ => none
 | k + 1, a, e, b, d, c => if a < (b.length : Int) then (if 0 ≤ a then ((jE.f ((aA b a).f1)).bind fun g => ((jE.f ((aA b a).f2)).bind fun h => (if c.length < 2199023255552 then (dP.l0 k (wrap64 (a + 1)) e b d (c ++ [(⟨(aA b a).f0, g, h⟩ : S52)])) else (none)))) else (none)) else (some (d, c))
def dP.f (k : Nat) (aZ : List ByteArray) (aI : List (S52)) : Option (List ByteArray × (List (S52))) := (jE.f aZ).bind fun a => (dP.l0 k 0 aZ aI a ([] : List (S52)))
def dP.T5 : Bool × List (List Nat × List Nat) := (true, [([], []), ([0], [0]), ([], []), ([2], [2]), ([], []), ([3, 4], [3, 4]), ([5], [5]), ([6], [6]), ([], []), ([8], [8]), ([], []), ([9, 10], [9, 10]), ([11], [11]), ([12], [12]), ([13], [13]), ([], []), ([15], [15]), ([], []), ([16, 17], [16, 17]), ([18], [18]), ([19], [19]), ([20, 14], [20]), ([7, 14, 21], [7, 14, 21]), ([22], [22]), ([1, 23, 21], [1, 23]), ([0, 1, 2, 3, 4, 5, 6, 7, 8, 9, 10, 11, 12, 13, 14, 15, 16, 17, 18, 19, 20, 21, 22, 23, 24], []), ([25, 24, 24, 0, 1, 2, 3, 4, 5, 6, 7, 8, 9, 10, 11, 12, 13, 14, 15, 16, 17, 18, 19, 20, 21, 22, 23, 24], [24, 25])])
def dP.B5 : List Nat := [0, 1, 0, 4, 0, 28, 60, 124, 0, 256, 0, 1792, 3840, 7936, 16128, 0, 32768, 0, 229376, 491520, 1015808, 2096896, 4194300, 8388604, 16777215, 33554431, 67108863]
theorem dP.tab5 : rtab .any (opsOf Tryz.f32 5) = dP.T5 := by kernel_rfl
theorem dP.Qe : o5 dP.T5.2 dP.B5 = true := by kernel_rfl
theorem dP.calls (k : Nat) (eE : Option Addr) (eF : Nat) (aZ : List ByteArray) (eV : Option Addr) (eC : Nat) (aI : List (S52)) (r1 : List ByteArray) (r2 : List (S52)) (w : World) (gP : Kd.C Kd.string w eE aZ.length aZ) (gN : aZ.length ≤ eF) (gK : Kd.C k52 w eV aI.length aI) (gO : aI.length ≤ eC) (h : dP.f k aZ aI = some (r1, r2)) :
  Calls Tryz.prog 32 #[.agg #[.slice eE aZ.length eF, .slice eV aI.length eC]] w fun e w' => ∃ v0_ v1_ : Value, e = .returned (.agg #[v0_, v1_]) ∧ Kd.R Kd.string 9 w' w.heap.size (fun _ => True) v0_ r1 ∧ Kd.S k52 52 w' w.heap.size (fun k_ => some k_ ≠ (v0_ : Value).ownBlock) v1_ r2 ∧ Below w.heap.size w w' := by
 have hu26 := Tryz.underlying26
 have hu52 := Tryz.underlying52
 obtain ⟨dT, dS⟩ := mZ2 gP gN
 obtain ⟨bV, eS⟩ := mZ2 gK gO
 clear gP gN gK gO
 have HB := am (Below.refl w.heap.size w)
 unfold dP.f at h
 have H := h
 clear h
 obtain ⟨pN, A2, H⟩ := bd H
 have H' := am H
 repeat clear H
 go_enter Tryz.func32, Tryz.ntmps32
 go_wp2_with (first | ((with_reducible refine gD 1 ?_); refine bX 1 #[.slice eE aZ.length eF, .slice eV aI.length eC] 26 ?_; intro aW hg w3 hbox hb; have a6 := am hbox; have iS := am (u4 : w.heap.size ≤ aW); have j5 := iS; replace HB := bS iJ hb; clear hb hbox hg) | ((with_reducible refine gD 2 ?_); refine bX 2 #[.slice none 0 0, .slice none 0 0] 26 ?_; intro bK hg w4 hbox hb; have aQ := am hbox; have qJ := am (EF : w.heap.size ≤ bK); have oI := qJ; replace HB := bS fH hb; have dJ := nL d3 hg; have dL := nG d3 hg; replace a6 := bB d3 hb; clear hb hbox hg; have Z5 := nZ1 dJ dL; have Z6 := cz2 a6) | ((with_reducible refine gC 36 ?_); refine cE (some 7) Tryz.func36 (jE.calls _ _ aZ pN _ (pB dT) dS.1 A2.out) ?_; rintro e w7 ⟨IV, rfl, eH, hb⟩; refine ⟨_, rfl, ?_⟩; have mX := am (Kd.dO eH (aG kO)); replace a6 := bB d3 hb; replace aQ := bB eW hb; replace HB := bS kO hb; clear hb eH; obtain ⟨QF, QJ, eo8⟩ := Kd.cZ mX.1; subst eo8) | ((with_reducible refine gD 3 ?_); refine bX 3 #[.slice none 0 0, .slice none 0 0] 26 ?_; intro TH hg w9 hbox hb; replace mX := am (Kd.jA (rR mX.1) hb); have kL := am hbox; have Og := am (UN : w.heap.size ≤ TH); have Of := Og; replace HB := bS kO hb; have rH := nL d3 hg; have xM := nG d3 hg; replace a6 := bB d3 hb; have tA := nL eW hg; have z6 := nG eW hg; replace aQ := bB eW hb; clear hb hbox hg; have Z10 := nZ2 xM rH z6 tA; have Ur := cz2 kL))
 go_loopg [4] k (fun kq v4 w' => ∃ (oF : Int) (oX : List (S52)) (o3 : Value), v4 = .int .i64 oF ∧ aC (dP.l0 kq oF aZ aI pN oX = some (r1, r2)) ∧ aC (kq ≤ k) ∧ aC (Kd.R Kd.string 9 w' w.heap.size (fun _ => True) (.slice QF pN.length QJ) pN) ∧ aC (Kd.S k52 52 w' w.heap.size (fun k_ => some k_ ≠ ((.slice QF pN.length QJ) : Value).ownBlock) o3 oX) ∧ aC (w'.heap[aW]? = some (.cells #[(.slice eE aZ.length eF), (.slice eV aI.length eC)] 26 (0, 0))) ∧ aC (w'.heap[bK]? = some (.cells #[(.slice none 0 0), (.slice none 0 0)] 26 (0, 0))) ∧ aC (w'.heap[TH]? = some (.cells #[(.slice QF pN.length QJ), o3] 26 (0, 0))) ∧ aC (Below w.heap.size w w'))
 case atStart => exact ⟨(0), (([] : List (S52))), (.slice none 0 0), dU, H', ⟨Nat.le_refl _⟩, ⟨mR mX kL⟩, ⟨eN⟩, ⟨qF a6 rH⟩, ⟨qF aQ tA⟩, ⟨qP kL⟩, ⟨P8⟩⟩
 clear H'
 try clear Ur
 try clear Z6
 obtain ⟨oF, oX, o3, rfl, HA, HK1, kQ, fQ, a6, aQ, kL, HB⟩ := hrel
 cases gk with
 | zero => exact absurd HA.out (by simp [dP.l0])
 | succ k1 =>
  have H := HA.out
  clear HA
  simp only [dP.l0] at H
  refine ic H ?_ ?_ <;> clear H <;> intro VI H
  ·obtain ⟨Aj, H⟩ := cN H
   obtain ⟨CY, Uo, H⟩ := bd H
   obtain ⟨K5, Up, H⟩ := bd H
   obtain ⟨wj, H⟩ := cL H
   obtain ⟨a4P, Pk⟩ := yv (oX ++ [(⟨(aA aI oF).f0, CY, K5⟩ : S52)]); first | replace H := bW Pk H | rw [← Pk.1] at H
   have H' := am H
   repeat clear H
   have Z18 := nZ2 dJ dL rH xM
   have Z20 := cz2 a6
   try go_wp2
   replace kQ := RD kQ
   replace fQ := SD fQ
   replace a6 := BD a6
   replace aQ := BD aQ
   replace kL := BD kL
   replace HB := am (aY HB.1)
   obtain ⟨wN, BU, CF, BV, CG, FW, l4, l5, l6, t6, m0, m3, lY, pQ, rU, zP, YQ, YX⟩ := qK bV HB oF
   cases FW
   obtain ⟨Q0, Nl, Qj, Nm, Qk, Eu, JH, JI, JJ, JN, JO, JP, R4, WT, MJ, He, qh, qv⟩ := qK bV HB oF
   obtain rfl : wN = Q0 := (by injection Eu)
   obtain ⟨ea_, ec_⟩ := eZ2 m0 JO
   subst ea_
   subst ec_
   obtain ⟨ea_, ec_⟩ := eZ2 m3 JP
   subst ea_
   subst ec_
   obtain ⟨oR, WJ, XB, WK, XC, LD, JK, JL, JM, yA, BL, BM, ML, QZ, x6, y4, UK, UU⟩ := qK bV HB oF
   obtain rfl : wN = oR := (by injection LD)
   obtain ⟨ea_, ec_⟩ := eZ2 m0 BL
   subst ea_
   subst ec_
   obtain ⟨ea_, ec_⟩ := eZ2 m3 BM
   subst ea_
   subst ec_
   refine sT [26] 27 (uB2 kL (uB2 a6 (uBx HB l4 (uBx HB l5 (uBx HB l6 (uBx HB JH (uBx HB JI (uBx HB JJ (uBx HB JK (uBx HB JL (uAx HB JM))))))))))) (fun hHeld => ?_)
   refine fP dP.tab5 dP.Qe (fun HT_ HW_ => ?_)
   generalize wr.drew = w21 at kQ fQ a6 aQ kL HB lY rU R4 MJ ML x6 t6 m0 m3 JN JO JP yA BL BM hHeld ⊢
   refine pU7 0 2 4 8 10 15 17 ?_
   refine tK13 1 (some 17) ?_
   refine tK13 3 (some 19) ?_
   refine pU2 5 6 ?_
   refine tK13 7 (some 23) ?_
   refine tK13 9 (some 25) ?_
   refine pU2 11 12 ?_
   refine tK13 13 (some 29) ?_
   refine tK13 16 (some 32) ?_
   refine pU2 18 19 ?_
   refine tK13 20 (some 36) ?_
   refine oN 14 (some 30) fun K hK => ?_
   refine gE Tryz.func36 (jE.calls _ _ ((aA aI oF).f1) CY _ (pB R4) WT.1 Uo.out) ?_
   rintro e uf ⟨sc, rfl, eH, hb⟩
   refine ⟨_, rfl, ?_⟩
   replace fQ := am (Kd.EQ TS (Kd.bT eH) hb)
   have wM := am (Kd.dO (Kd.fF eH (Kd.R_lt P9)) (aG P8))
   replace kQ := am (Kd.dV P9 (Kd.bT eH) hb)
   replace a6 := bB d3 hb
   replace aQ := bB eW hb
   replace kL := bB YU hb
   replace HB := bS P8 hb
   clear hb eH
   refine nK hK (uB2 kL (uB2 a6 (uBx HB l4 (uBx HB l5 (uBx HB l6 (uBx HB JH (uBx HB JI (uBx HB JJ (uBx HB JK (uBx HB JL (uAx HB JM))))))))))).1 fun hHeld => ?_
   clear hK K
   refine oN 21 (some 37) fun K hK => ?_
   refine gE Tryz.func36 (jE.calls _ _ ((aA aI oF).f2) K5 _ (pB x6) y4.1 Up.out) ?_
   rintro e w23 ⟨Ud, rfl, eH, hb⟩
   refine ⟨_, rfl, ?_⟩
   replace fQ := am (Kd.EQ TS (Kd.bT eH) hb)
   have GT := am (Kd.dO (Kd.fF (Kd.fF eH (Kd.R_lt P9)) (Kd.R_lt (rR wM.1))) (aG P8))
   replace kQ := am (Kd.dV P9 (Kd.bT eH) hb)
   replace wM := am (Kd.dV (rR wM.1) (Kd.bT eH) hb)
   replace a6 := bB d3 hb
   replace aQ := bB eW hb
   replace kL := bB YU hb
   replace HB := bS P8 hb
   clear hb eH
   obtain ⟨Nu, Qy, Rj⟩ := Kd.cZ GT.1
   (first | subst Rj | (obtain ⟨f4_, f5_⟩ := sj Rj; subst f4_; subst f5_))
   obtain ⟨fs, lz, Wv⟩ := Kd.cZ wM.1
   (first | subst Wv | (obtain ⟨f4_, f5_⟩ := sj Wv; subst f4_; subst f5_))
   refine nK hK (uB2 kL (uB2 a6 (uBx HB l4 (uBx HB l5 (uBx HB l6 (uBx HB JH (uBx HB JI (uBx HB JJ (uBx HB JK (uBx HB JL (uAx HB JM))))))))))).1 fun hHeld => ?_
   clear hK K
   refine pU1 22 ?_
   refine oN 23 (some 39) fun K hK => ?_
   refine M6 (w1 := ?_) (v := ?_) (by rfl) rfl ?_ ?_
   rotate_left 2
   ·go_simp
    constructor
    ·rfl
    ·rfl
   refine hK.out _ _ ⟨(bP (bF kL.1 _) 0).trans rfl, (bP (bF kL.1 _) 1).trans rfl, (bP (bF a6.1 _) 0).trans rfl, (bP (bF a6.1 _) 1).trans rfl, (World.cell?_alloc_lt _ _ _ (World.block_lt_of_cell? _ _ ((hX HB l4)))).trans ((hX HB l4)), (World.cell?_alloc_lt _ _ _ (World.block_lt_of_cell? _ _ ((hX HB l5)))).trans ((hX HB l5)), (World.cell?_alloc_lt _ _ _ (World.block_lt_of_cell? _ _ ((hX HB l6)))).trans ((hX HB l6)), (World.cell?_alloc_lt _ _ _ (World.block_lt_of_cell? _ _ ((hX HB JH)))).trans ((hX HB JH)), (World.cell?_alloc_lt _ _ _ (World.block_lt_of_cell? _ _ ((hX HB JI)))).trans ((hX HB JI)), (World.cell?_alloc_lt _ _ _ (World.block_lt_of_cell? _ _ ((hX HB JJ)))).trans ((hX HB JJ)), (World.cell?_alloc_lt _ _ _ (World.block_lt_of_cell? _ _ ((hX HB JK)))).trans ((hX HB JK)), (World.cell?_alloc_lt _ _ _ (World.block_lt_of_cell? _ _ ((hX HB JL)))).trans ((hX HB JL)), (World.cell?_alloc_lt _ _ _ (World.block_lt_of_cell? _ _ ((hX HB JM)))).trans ((hX HB JM))⟩ (fun hHeld => ?_)
   clear hK K
   refine nM ?_
   refine oN 24 (some 40) fun K hK => ?_
   refine Kd.E8 k52 (w0 := w) w.heap.size (by rfl) (.tmp 17) (.tmp 39) 24 52 Ag0 64 rfl Tryz.underlying24 tZ rfl (by decide) (by omega) o3 oX (⟨(aA aI oF).f0, CY, K5⟩ : S52) [.string ((aA aI oF).f0), .slice fs CY.length lz, .slice Nu K5.length Qy] (fun k_ => some k_ ≠ (.slice QF pN.length QJ : Value).ownBlock) (fun k_ => some k_ = (.slice fs CY.length lz : Value).ownBlock ∨ some k_ = (.slice Nu K5.length Qy : Value).ownBlock) rfl rfl ?aP (fun k_ hk_ => hk_.elim (fun h_ => ((Kd.aT (ok' := fun k_ => ((fun k_ => some k_ ≠ (.slice QF pN.length QJ : Value).ownBlock)) k_ ∧ some k_ ≠ (o3 : Value).ownBlock) (Kd.iU (wM.1) (Kd.nC fQ.1) (by decide)) (fun k_ hk => ⟨hk.1.1.2, hk.2⟩))).1 k_ h_.symm) (fun h_ => ((Kd.aT (ok' := fun k_ => ((fun k_ => some k_ ≠ (.slice QF pN.length QJ : Value).ownBlock)) k_ ∧ some k_ ≠ (o3 : Value).ownBlock) (Kd.iU (GT.1) (Kd.nC fQ.1) (by decide)) (fun k_ hk => ⟨hk.1.1.2, hk.2⟩))).1 k_ h_.symm)) ?aF ?aO ?aB ?aS ?aL ?_
   (case aP => exact DR _ _ _ (⟨(aA aI oF).f0, CY, K5⟩ : S52) (Kd.aT (Kd.nA rfl (Kd.aT (ok' := fun k_ => ((fun k_ => some k_ ≠ (.slice QF pN.length QJ : Value).ownBlock)) k_ ∧ some k_ ≠ (o3 : Value).ownBlock) (Kd.iU (wM.1) (Kd.nC fQ.1) (by decide)) (fun k_ hk => ⟨hk.1.1.2, hk.2⟩))) (fun _ h_ => Or.inl h_)) (Kd.aT (Kd.nA rfl (Kd.aT (ok' := fun k_ => ((fun k_ => some k_ ≠ (.slice QF pN.length QJ : Value).ownBlock)) k_ ∧ some k_ ≠ (o3 : Value).ownBlock) (Kd.iU (GT.1) (Kd.nC fQ.1) (by decide)) (fun k_ hk => ⟨hk.1.1.2, hk.2⟩))) (fun _ h_ => Or.inr (h_))) (Tp wM.1 GT.1))
   (case aB => exact P8)
   (case aF => exact (fun k_ hk => Kd.fresh' (Kd.R_lt P9) k_ hk))
   (case aO => exact (by refine rS ?_; exact Kd.gX fQ.1 (fun k_ hk => ⟨hk.1.1, fun e_ => e_.elim (fun h_ => hk.1.2 h_) (fun h_ => hk.2 h_)⟩)))
   (case aS => exact (aG P8))
   (case aL => have := wj.out; omega)
   intro aTI w26 ho hb hg hat
   rw [← Pk.out] at ho
   replace kQ := am (Kd.uQ P9 (Kd.nC TS) (by decide) hg)
   replace a6 := gkS d3 hg fQ a6
   replace aQ := gkS eW hg fQ aQ
   replace kL := gkS YU hg fQ kL
   replace HB := am hb
   have Zl := am ho
   clear fQ
   clear wM
   clear GT
   clear ho hb hg hat
   obtain ⟨aAL, aCJ, a1L⟩ := Kd.FN Zl.1
   (first | subst a1L | (obtain ⟨f4_, f5_⟩ := sj a1L; subst f4_; subst f5_))
   refine nK hK (uB2 kL (uB2 a6 (uBx HB l4 (uBx HB l5 (uBx HB l6 (uBx HB JH (uBx HB JI (uBx HB JJ (uBx HB JK (uBx HB JL (uAx HB JM))))))))))).1 fun hHeld => ?_
   clear hK K
   refine pU1 25 ?_
   refine lN 26 none fun K hK => ?_
   have aSW : w26.cell? ⟨TH, 1, none⟩ = some (o3) := (bP kL.1 1).trans rfl
   have aLI := gF kL.1 1
   have a90 := rH.1
   have a92 := tA.1
   have a7W := xM.1
   have a7X := z6.1
   refine AC (w1 := ?_) (by rfl) rfl ?_ ?_
   rotate_left
   ·go_simp
    rfl
   refine hK.out _ _ ?_
   clear hK K
   refine dN ?_
   try go_wp2
   go_roundg k1
   case measure => have := HK1.out; omega
   case rel => exact ⟨(wrap64 (oF + 1)), (a4P), (.slice aAL a4P.length aCJ), dU, H', ⟨by have := HK1.out; omega⟩, ⟨mR kQ kL⟩, ⟨mS Zl kL⟩, ⟨qF a6 rH⟩, ⟨qF aQ tA⟩, ⟨by refine rB ?_; refine cO (cs := #[.slice QF pN.length QJ, o3]) ?_ 1 _ rfl; refine rB ?_; exact kL.1⟩, ⟨P8⟩⟩
  ·obtain ⟨rfl, rfl⟩ := sZ2 H
   repeat clear H
   have Z29 := nZ2 dJ dL rH xM
   have Z31 := cz2 a6
   have Z32 := nZ1 z6 tA
   have yw := cz2 kL
   have Z34 := cz2 aQ
   obtain ⟨aAO, aCM, aDA⟩ := Kd.FN fQ.1
   subst aDA
   go_wp2
   refine cR bK 26 #[.slice QF pN.length QJ, .slice aAO oX.length aCM] (qP aQ) Tryz.underlying26 ?_
   exact ⟨_, _, eR, mR kQ aQ, mS fQ aQ, P8⟩
def iM.l0 : Nat → ByteArray → Int → List ByteArray → List (S52) → Option (Int)
 | 0, _, _, _, _ => none
 | k + 1, c, a, d, b => if a < (b.length : Int) then (if 0 ≤ a then (if ((aA b a).f0).toList = c.toList then (some a) else (iM.l0 k c (wrap64 (a + 1)) d b)) else (none)) else (some (-1))
def iM.f (k : Nat) (aZ : List ByteArray) (aI : List (S52)) (a1 : ByteArray) : Option (Int) := iM.l0 k a1 0 aZ aI
theorem iM.calls (k : Nat) (eE : Option Addr) (eF : Nat) (aZ : List ByteArray) (eV : Option Addr) (eC : Nat) (aI : List (S52)) (a1 : ByteArray) (r : Int) (w : World) (gP : Kd.C Kd.string w eE aZ.length aZ) (gN : aZ.length ≤ eF) (gK : Kd.C k52 w eV aI.length aI) (gO : aI.length ≤ eC) (h : iM.f k aZ aI a1 = some r) :
  Calls Tryz.prog 35 #[.agg #[.slice eE aZ.length eF, .slice eV aI.length eC], .string a1] w fun e w' => e = .returned (.int .i64 r) ∧ Below w.heap.size w w' := by
 have hu26 := Tryz.underlying26
 obtain ⟨dT, dS⟩ := mZ2 gP gN
 obtain ⟨bV, eS⟩ := mZ2 gK gO
 clear gP gN gK gO
 have HB := am (Below.refl w.heap.size w)
 unfold iM.f at h
 have H := h
 clear h
 have H' := am H
 repeat clear H
 go_enter Tryz.func35, Tryz.ntmps35
 go_wp2_with (first | ((with_reducible refine gD 2 ?_); refine bX 2 #[.slice eE aZ.length eF, .slice eV aI.length eC] 26 ?_; intro aW hg w3 hbox hb; have a6 := am hbox; have iS := am (u4 : w.heap.size ≤ aW); have j5 := iS; replace HB := bS iJ hb; clear hb hbox hg))
 go_loopg [5] k (fun kq v5 w' => ∃ (bR : Int), v5 = .int .i64 bR ∧ aC (iM.l0 kq a1 bR aZ aI = some r) ∧ aC (kq ≤ k) ∧ aC (w'.heap[aW]? = some (.cells #[(.slice eE aZ.length eF), (.slice eV aI.length eC)] 26 (0, 0))) ∧ aC (Below w.heap.size w w'))
 case atStart => exact ⟨(0), dU, H', ⟨Nat.le_refl _⟩, ⟨rB a6.1⟩, ⟨fH⟩⟩
 clear H'
 obtain ⟨bR, rfl, HA, HK1, a6, HB⟩ := hrel
 cases gk with
 | zero => exact absurd HA.out (by simp [iM.l0])
 | succ k1 =>
  have H := HA.out
  clear HA
  simp only [iM.l0] at H
  refine ic H ?_ ?_ <;> clear H <;> intro CH H
  ·obtain ⟨FT, H⟩ := cN H
   refine iq H ?_ ?_ <;> clear H <;> intro c6 MQ En H
   ·obtain rfl := Option.some.inj H
    repeat clear H
    have Z7 := cz2 a6
    obtain ⟨pJ, vD, vI, vE, vJ, uM, oW, qT, qU, rT, rP, vU, vT, EE, EH⟩ := aT52 bV HB bR
    cases uM
    go_wp2
    go_ret
    exact ⟨eR, fH⟩
   ·have H' := am H
    repeat clear H
    have Z8 := cz2 a6
    obtain ⟨pJ, vD, vI, vE, vJ, uM, oW, qT, qU, rT, rP, vU, vT, EE, EH⟩ := aT52 bV HB bR
    cases uM
    go_wp2
    go_roundg k1
    case measure => have := HK1.out; omega
    case rel => exact ⟨(wrap64 (bR + 1)), dU, H', ⟨by have := HK1.out; omega⟩, ⟨rB a6.1⟩, ⟨fH⟩⟩
  ·obtain rfl := Option.some.inj H
   repeat clear H
   have Z9 := cz2 a6
   go_wp2
   go_ret
   exact ⟨eR, fH⟩
theorem Si (W : World) (ok : Nat → Prop) (x : S52) {A1 : Option Addr} {c1 e base : Nat} {v2 : Value} (l1 : x.f1.length ≤ c1) (g1 : Kd.F Kd.string W ok A1 x.f1.length x.f1) (h : Kd.R Kd.string e W base ok v2 x.f2) : Kd.FK k52 W ok x [.string x.f0, .slice A1 x.f1.length c1, v2] := by
 obtain ⟨A, c, rfl⟩ := Kd.cZ h
 exact RL W ok x l1 g1 (Kd.bH h).2.1 (Kd.R_F h)
theorem Bw (W : World) (ok : Nat → Prop) (x : S52) {A2 : Option Addr} {c2 e base : Nat} {v1 : Value} (h : Kd.R Kd.string e W base ok v1 x.f1) (l2 : x.f2.length ≤ c2) (g2 : Kd.F Kd.string W ok A2 x.f2.length x.f2) : Kd.FK k52 W ok x [.string x.f0, v1, .slice A2 x.f2.length c2] := by
 obtain ⟨A, c, rfl⟩ := Kd.cZ h
 exact RL W ok x (Kd.bH h).2.1 (Kd.R_F h) l2 g2
def eT.l0 : Nat → List ByteArray → Int → List ByteArray → Int → List ByteArray → List (S52) → List ByteArray → List (S52) → Option (List ByteArray × (List (S52)) × Int)
 | 0, _, _, _, _, _, _, _, _ => none
 | k + 1, e, a, g, b, j, c, h, d => if 0 ≤ a then (if a < (c.length : Int) then (if b < (((aA c a).f1).length : Int) then (if 0 ≤ b then ((eP.f k e (rdOf ByteArray.empty ((aA c a).f1) b)).bind fun m => (if m = true then (if g.length < 8796093022208 then (eT.l0 k e a (g ++ [rdOf ByteArray.empty ((aA c a).f1) b]) (wrap64 (b + 1)) j c h d) else (none)) else (eT.l0 k e a g (wrap64 (b + 1)) j c h d))) else (none)) else ((jE.f e).bind fun n => (if a < (d.length : Int) then ((some (d.set (a : Int).toNat (⟨(aA d a).f0, (aA d a).f1, n⟩ : S52) : List (S52))).bind fun i => ((dP.f k h (i.set (a : Int).toNat (⟨(aA i a).f0, g, (aA i a).f2⟩ : S52))).bind fun l => (some (l.1, l.2, 0)))) else (none)))) else (none)) else (none)
def eT.f (k : Nat) (aZ : List ByteArray) (aI : List (S52)) (a1 : ByteArray) (l2 : List ByteArray) : Option (List ByteArray × (List (S52)) × Int) := (aN.f k aZ aI).bind fun c => (if c = true then ((dP.f k aZ aI).bind fun a => ((iM.f k aZ aI a1).bind fun b => (if b < 0 then (some (a.1, a.2, 3)) else (if 0 ≤ b then (if b < (aI.length : Int) then ((dI.f k l2 ((aA aI b).f2)).bind fun d => (if d = true then (eT.l0 k l2 b (([] : List ByteArray)) 0 aZ aI a.1 a.2) else (some (a.1, a.2, 2)))) else (none)) else (none))))) else (some (([] : List ByteArray), ([] : List (S52)), 1)))
def eT.T15 : Bool × List (List Nat × List Nat) := (true, [([], []), ([0], [0]), ([], []), ([], []), ([3], [3]), ([1, 2, 0, 1, 2, 3, 4], [1, 2]), ([5, 0, 1, 2, 3, 4], [5]), ([6, 4, 4, 0, 1, 2, 3, 4], [4, 6])])
def eT.B15 : List Nat := [0, 1, 0, 0, 8, 31, 63, 127]
theorem eT.Tx : rtab .any (opsOf Tryz.f10 15) = eT.T15 := by kernel_rfl
theorem eT.Eh : o5 eT.T15.2 eT.B15 = true := by kernel_rfl
theorem eT.calls (k : Nat) (eE : Option Addr) (eF : Nat) (aZ : List ByteArray) (eV : Option Addr) (eC : Nat) (aI : List (S52)) (a1 : ByteArray) (A2 : Option Addr) (c2 : Nat) (l2 : List ByteArray) (r1 : List ByteArray) (r2 : List (S52)) (r3 : Int) (w : World) (gP : Kd.C Kd.string w eE aZ.length aZ) (gN : aZ.length ≤ eF) (gK : Kd.C k52 w eV aI.length aI) (gO : aI.length ≤ eC) (Q7 : Kd.C Kd.string w A2 l2.length l2) (MA : l2.length ≤ c2) (h : eT.f k aZ aI a1 l2 = some (r1, r2, r3)) :
  Calls Tryz.prog 10 #[.agg #[.slice eE aZ.length eF, .slice eV aI.length eC], .string a1, .slice A2 l2.length c2] w fun e w' => ∃ v0_ v1_ : Value, e = .returned (.tuple #[.agg #[v0_, v1_], .int .i64 r3]) ∧ Kd.R Kd.string 9 w' w.heap.size (fun k_ => (w.heap.size ≤ k_)) v0_ r1 ∧ Kd.N k52 52 w' w.heap.size (F10 w v0_) v1_ r2 ∧ Below w.heap.size w w' := by
 have hu26 := Tryz.underlying26
 obtain ⟨dT, dS⟩ := mZ2 gP gN
 obtain ⟨bV, eS⟩ := mZ2 gK gO
 obtain ⟨B0, yN⟩ := mZ2 Q7 MA
 clear gP gN gK gO Q7 MA
 have HB := am (Below.refl w.heap.size w)
 unfold eT.f at h
 have H := h
 clear h
 obtain ⟨pN, A4, H⟩ := bd H
 refine tC H ?_ ?_ <;> clear H <;> intro c5 H <;> subst c5
 ·obtain ⟨⟨dB, bM⟩, A6, H⟩ := bd H
  dsimp only at H
  obtain ⟨bZ, A7, H⟩ := bd H
  refine ic H ?_ ?_ <;> clear H <;> intro H3 H
  ·obtain ⟨rfl, rfl, rfl⟩ := sZ3 H
   repeat clear H
   go_enter Tryz.func10, Tryz.ntmps10
   go_wp2_with (first | ((with_reducible refine jW (N := 3) rfl ?_); refine rM ?hg (N := 3) ?hd (cs := #[.slice eE aZ.length eF, .slice eV aI.length eC]) (t := 26) ?hr ?_; (case hd => rfl); (case hg => rfl); (case hr => (try (obtain ⟨Az_, cz_, ez_⟩ := Kd.cZ qX.1; subst ez_)); first | (go_simp; done) | (go_simp; rfl)); intro aW hg w9 hbox hb; have a6 := am hbox; have iS := am (u4 : w.heap.size ≤ aW); have j5 := iS; replace HB := bS iJ hb; clear hb hbox hg) | ((with_reducible refine jW (N := 6) rfl ?_); refine rM ?hg (N := 6) ?hd (cs := #[.slice none 0 0, .slice none 0 0]) (t := 26) ?hr ?_; (case hd => rfl); (case hg => rfl); (case hr => (try (obtain ⟨Az_, cz_, ez_⟩ := Kd.cZ qX.1; subst ez_)); first | (go_simp; done) | (go_simp; rfl)); intro bK hg w10 hbox hb; have aQ := am hbox; have qJ := am (EF : w.heap.size ≤ bK); have oI := qJ; replace HB := bS fH hb; have dJ := nL d3 hg; have dL := nG d3 hg; replace a6 := bB d3 hb; clear hb hbox hg; have Uq := nZ1 dJ dL; have Ur := cz2 a6) | ((with_reducible refine gC 31 ?_); refine cQ (some 13) Tryz.func31 (aN.calls k _ _ aZ _ _ aI true _ (pB dT) dS.1 (pB bV) eS.1 A4.out) ?_; rintro Na hb; replace a6 := bB d3 hb; replace aQ := bB eW hb; replace HB := bS kO hb; clear hb; have Z14 := cz2 a6) | ((with_reducible refine gC 32 ?_); refine cE (some 17) Tryz.func32 (dP.calls k _ _ aZ _ _ aI dB bM _ (pB dT) dS.1 (pB bV) eS.1 A6.out) ?_; rintro e w15 ⟨H6, D0, rfl, eH, lW, hb⟩; refine ⟨_, rfl, ?_⟩; have gG := am (Kd.dO (Kd.pX (M := fun k_ => (w.heap.size ≤ k_)) eH (aG kO) (fun k_ h_ => h_)) (aG kO)); have fD := am (Kd.jK (Kd.aJ (ok' := F12 w H6 aW bK) (Kd.S_N (Kd.lG lW)) (fun k_ hk_ => ⟨(Nat.le_trans (aG kO) hk_.2.1), hk_.1, (fB d3 k_ hk_.2.1), (fB eW k_ hk_.2.1)⟩)) (aG kO)); replace a6 := bB d3 hb; replace aQ := bB eW hb; replace HB := bS kO hb; clear hb eH lW) | ((with_reducible refine jW (N := 8) rfl ?_); refine rM ?hg (N := 8) ?hd (cs := #[.slice none 0 0, .slice none 0 0]) (t := 26) ?hr ?_; (case hd => rfl); (case hg => rfl); (case hr => (try (obtain ⟨Az_, cz_, ez_⟩ := Kd.cZ qX.1; subst ez_)); first | (go_simp; done) | (go_simp; rfl)); intro bC hg w16 hbox hb; replace gG := RB uB hb; replace fD := am (Kd.iI (Kd.jU yF bC (Nat.le_of_eq hg.symm)) hb); have aV := am hbox; have C1 := am (UN : w.heap.size ≤ bC); have sO := C1; replace HB := bS kO hb; have fM := nL d3 hg; have gJ := nG d3 hg; replace a6 := bB d3 hb; have g4 := nL eW hg; have iL := nG eW hg; replace aQ := bB eW hb; clear hb hbox hg; obtain ⟨uu, a0Q, aD5⟩ := Kd.cZ gG.1; subst aD5; have Z18 := nZ2 gJ fM iL g4; have Z20 := cz2 aV; obtain ⟨uv, a0R, aD6⟩ := Kd.gM fD.1; subst aD6; have Z22 := cz2 a6) | ((with_reducible refine gC 35 ?_); refine cQ (some 20) Tryz.func35 (iM.calls k _ _ aZ _ _ aI a1 bZ _ (Kd.aU dT.1 fW) dS.1 (Kd.aU bV.1 fW) eS.1 A7.out) ?_; rintro w23 hb; replace gG := am (Kd.jA (by refine rR ?_; exact (Kd.aT (fR (fR (tR gG aV))) (fun _ h_ => h_.1))) hb); replace fD := am (Kd.iI (by refine rN ?_; exact (Kd.aJ (fN (fN (Kd.aJ fD.1 (fun k_ hk => (⟨hk, hk.2⟩ : _ ∧ k_ ≠ bC))))) (fun _ h_ => h_.1))) hb); replace a6 := am (aX (g := aW) (o := .cells #[.slice eE aZ.length eF, .slice eV aI.length eC] 26 (0, 0)) YR hb); replace aQ := am (aX (g := bK) (o := .cells #[.slice none 0 0, .slice none 0 0] 26 (0, 0)) YS hb); replace aV := am (aX (g := bC) (o := .cells #[.slice uu dB.length a0Q, .slice uv bM.length a0R] 26 (0, 0)) (qP aV) hb); replace HB := bS fW hb; clear hb; have Z24 := cz2 aV; have Z25 := cz2 aQ))
   refine cT bK 26 #[.slice uu dB.length a0Q, .slice uv bM.length a0R] (qP aQ) Tryz.underlying26 ?_
   exact ⟨_, _, eR, mR gG aQ, by refine rN ?_; exact Kd.aJ (fN (fN (Kd.aJ fD.1 (fun k_ hk => (⟨hk, hk.1.2.2.2⟩ : _ ∧ k_ ≠ bK))))) (fun _ hk => ⟨hk.1.1.1, hk.1.1.2.1⟩), fW⟩
  obtain ⟨SV, H⟩ := cN H
  obtain ⟨SW, H⟩ := cN H
  obtain ⟨K5, Za, H⟩ := bd H
  refine tC H ?_ ?_ <;> clear H <;> intro bj H <;> subst bj
  ·obtain ⟨Ul, hy114⟩ : ∃ y_ : List ByteArray, y_ = (([] : List ByteArray)) := ⟨_, rfl⟩
   replace H : (eT.l0 k l2 bZ Ul 0 aZ aI dB bM) = some (r1, r2, r3) := by first | (rw [hy114]; with_reducible exact H) | (have H2_ := (Option.bind_some _ _).symm.trans H; rw [hy114]; with_reducible exact H2_) | (have H2_ := (Option.bind_some _ _).symm.trans H; with_reducible exact H2_) | with_reducible exact H | (rw [hy114]; exact H) | exact H
   have ZY := am hy114
   clear hy114
   have H' := am H
   repeat clear H
   go_enter Tryz.func10, Tryz.ntmps10
   go_wp2_with (first | ((with_reducible refine jW (N := 3) rfl ?_); refine rM ?hg (N := 3) ?hd (cs := #[.slice eE aZ.length eF, .slice eV aI.length eC]) (t := 26) ?hr ?_; (case hd => rfl); (case hg => rfl); (case hr => (try (obtain ⟨Az_, cz_, ez_⟩ := Kd.cZ qX.1; subst ez_)); first | (go_simp; done) | (go_simp; rfl)); intro aW hg w30 hbox hb; have a6 := am hbox; have iS := am (u4 : w.heap.size ≤ aW); have j5 := iS; replace HB := bS iJ hb; clear hb hbox hg) | ((with_reducible refine jW (N := 6) rfl ?_); refine rM ?hg (N := 6) ?hd (cs := #[.slice none 0 0, .slice none 0 0]) (t := 26) ?hr ?_; (case hd => rfl); (case hg => rfl); (case hr => (try (obtain ⟨Az_, cz_, ez_⟩ := Kd.cZ qX.1; subst ez_)); first | (go_simp; done) | (go_simp; rfl)); intro bK hg se hbox hb; have aQ := am hbox; have qJ := am (EF : w.heap.size ≤ bK); have oI := qJ; replace HB := bS fH hb; have dJ := nL d3 hg; have dL := nG d3 hg; replace a6 := bB d3 hb; clear hb hbox hg; have Z32 := nZ1 dJ dL; have yw := cz2 a6) | ((with_reducible refine gC 31 ?_); refine cQ (some 13) Tryz.func31 (aN.calls k _ _ aZ _ _ aI true _ (pB dT) dS.1 (pB bV) eS.1 A4.out) ?_; rintro w34 hb; replace a6 := bB d3 hb; replace aQ := bB eW hb; replace HB := bS kO hb; clear hb; have Z35 := cz2 a6) | ((with_reducible refine gC 32 ?_); refine cE (some 17) Tryz.func32 (dP.calls k _ _ aZ _ _ aI dB bM _ (pB dT) dS.1 (pB bV) eS.1 A6.out) ?_; rintro e w36 ⟨H6, D0, rfl, eH, lW, hb⟩; refine ⟨_, rfl, ?_⟩; have gG := am (Kd.dO (Kd.pX (M := fun k_ => (w.heap.size ≤ k_)) eH (aG kO) (fun k_ h_ => h_)) (aG kO)); have fD := am (Kd.jK (Kd.aJ (ok' := F12 w H6 aW bK) (Kd.S_N (Kd.lG lW)) (fun k_ hk_ => ⟨(Nat.le_trans (aG kO) hk_.2.1), hk_.1, (fB d3 k_ hk_.2.1), (fB eW k_ hk_.2.1)⟩)) (aG kO)); replace a6 := bB d3 hb; replace aQ := bB eW hb; replace HB := bS kO hb; clear hb eH lW) | ((with_reducible refine jW (N := 8) rfl ?_); refine rM ?hg (N := 8) ?hd (cs := #[.slice none 0 0, .slice none 0 0]) (t := 26) ?hr ?_; (case hd => rfl); (case hg => rfl); (case hr => (try (obtain ⟨Az_, cz_, ez_⟩ := Kd.cZ qX.1; subst ez_)); first | (go_simp; done) | (go_simp; rfl)); intro bC hg w37 hbox hb; replace gG := RB uB hb; replace fD := am (Kd.iI (Kd.jU yF bC (Nat.le_of_eq hg.symm)) hb); have aV := am hbox; have C1 := am (UN : w.heap.size ≤ bC); have sO := C1; replace HB := bS kO hb; have fM := nL d3 hg; have gJ := nG d3 hg; replace a6 := bB d3 hb; have g4 := nL eW hg; have iL := nG eW hg; replace aQ := bB eW hb; clear hb hbox hg; obtain ⟨t8, sR, ne⟩ := Kd.cZ gG.1; subst ne; have Z39 := nZ2 gJ fM iL g4; have Z41 := cz2 aV; obtain ⟨Nv, MT, nk⟩ := Kd.gM fD.1; subst nk; have Z43 := cz2 a6) | ((with_reducible refine gC 35 ?_); refine cQ (some 20) Tryz.func35 (iM.calls k _ _ aZ _ _ aI a1 bZ _ (Kd.aU dT.1 fW) dS.1 (Kd.aU bV.1 fW) eS.1 A7.out) ?_; rintro ZK hb; replace gG := am (Kd.jA (by refine rR ?_; exact (Kd.aT (fR (fR (tR gG aV))) (fun _ h_ => h_.1))) hb); replace fD := am (Kd.iI (by refine rN ?_; exact (Kd.aJ (fN (fN (Kd.aJ fD.1 (fun k_ hk => (⟨hk, hk.2⟩ : _ ∧ k_ ≠ bC))))) (fun _ h_ => h_.1))) hb); replace a6 := am (aX (g := aW) (o := .cells #[.slice eE aZ.length eF, .slice eV aI.length eC] 26 (0, 0)) YR hb); replace aQ := am (aX (g := bK) (o := .cells #[.slice none 0 0, .slice none 0 0] 26 (0, 0)) YS hb); replace aV := am (aX (g := bC) (o := .cells #[.slice t8 dB.length sR, .slice Nv bM.length MT] 26 (0, 0)) (qP aV) hb); replace HB := bS fW hb; clear hb; have zd := cz2 a6; obtain ⟨oR, WJ, XB, WK, XC, LD, yA, BL, BM, ML, QZ, x6, y4, UK, UU⟩ := aT52 bV HB bZ; cases LD) | ((with_reducible refine gC 34 ?_); refine cQ (some 31) Tryz.func34 (dI.calls k _ _ l2 _ _ ((aA aI bZ).f2) true _ (pB B0) yN.1 (pB x6) y4.1 Za.out) ?_; rintro w' ⟨nd, rfl⟩) | ((with_reducible refine jW (N := 34) rfl ?_); refine Kd.SI Kd.string _ 9 ?hg (N := 34) ?hd (xs := ([] : List ByteArray)) (inner := []) (ok := fun _ => True) (okp := fun _ => True) ?hr ?hp (fun _ hk => hk) trivial (Below.refl _ _) (Nat.le_refl _) (by simp) ?_; (case hd => rfl); (case hg => rfl); (case hr => (try (obtain ⟨Az_, cz_, ez_⟩ := Kd.cZ qX.1; subst ez_)); first | (go_simp; done) | (go_simp; rfl)); (case hp => exact (Reps.none _ _)); intro a3Z w46 Fj hb hg_ hnew_; clear hg_ hnew_; (first | rw [← ZY.out] at Fj | (simp only [Int.reduceToNat] at Fj; rw [← ZY.out] at Fj)); replace fD := am (Kd.rW yF (Kd.bT Fj) hb); have PV := am (Kd.dO (Kd.fF (Kd.pX (M := fun k_ => (w.heap.size ≤ k_)) Fj (aG fW) (fun k_ h_ => h_)) (Kd.R_lt uB)) (aG fW)); replace gG := am (Kd.dV uB (Kd.bT Fj) hb); replace a6 := bB d3 hb; replace aQ := bB eW hb; replace aV := bB iD hb; replace HB := bS fW hb; clear hb Fj))
   go_loopg [10, 11] k (fun kq v10 v11 w' => ∃ (KU : List ByteArray) (sH : Int), v11 = .int .i64 sH ∧ aC (eT.l0 kq l2 bZ KU sH aZ aI dB bM = some (r1, r2, r3)) ∧ aC (kq ≤ k) ∧ aC (Kd.R Kd.string 9 w' w.heap.size (F10 w (.slice t8 dB.length sR)) v10 KU) ∧ aC (Kd.R Kd.string 9 w' w.heap.size (F10 w v10) (.slice t8 dB.length sR) dB) ∧ aC (Kd.N k52 52 w' w.heap.size (F23 w v10 (.slice t8 dB.length sR) aW bK bC) (.slice Nv bM.length MT) bM) ∧ aC (w'.heap[aW]? = some (.cells #[(.slice eE aZ.length eF), (.slice (some oR) aI.length eC)] 26 (0, 0))) ∧ aC (w'.heap[bK]? = some (.cells #[(.slice none 0 0), (.slice none 0 0)] 26 (0, 0))) ∧ aC (w'.heap[bC]? = some (.cells #[(.slice t8 dB.length sR), (.slice Nv bM.length MT)] 26 (0, 0))) ∧ aC (Below w.heap.size w w'))
   case atStart => exact ⟨(Ul), (0), dU, H', ⟨Nat.le_refl _⟩, ⟨by refine rR ?_; exact Kd.aT PV.1 (fun _ hk => ⟨hk.1.1, hk.2⟩)⟩, ⟨by refine rR ?_; exact Kd.aT gG.1 (fun _ hk => ⟨hk.1.1, hk.2⟩)⟩, ⟨by refine rN ?_; exact Kd.aJ fD.1 (fun _ hk => ⟨hk.1.1.1, ⟨hk.2, ⟨hk.1.1.2.1, ⟨hk.1.1.2.2.1, ⟨hk.1.1.2.2.2, hk.1.2⟩⟩⟩⟩⟩)⟩, ⟨rB a6.1⟩, ⟨rB aQ.1⟩, ⟨rB aV.1⟩, ⟨fW⟩⟩
   clear H'
   try clear c2
   try clear c5
   try clear H3
   try clear SV
   try clear SW
   try clear bj
   try clear yw
   try clear Z35
   try clear Z41
   try clear Z43
   try clear zd
   try clear yA BL BM
   try clear UK UU
   obtain ⟨KU, sH, rfl, HA, HK1, qX, aH, aD, a6, aQ, aV, HB⟩ := hrel
   cases gk with
   | zero => exact absurd HA.out (by simp [eT.l0])
   | succ k1 =>
    have H := HA.out
    clear HA
    simp only [eT.l0] at H
    obtain ⟨bo, H⟩ := cN H
    obtain ⟨Am, H⟩ := cN H
    refine ic H ?_ ?_ <;> clear H <;> intro bp H
    ·obtain ⟨a0E, H⟩ := cN H
     obtain ⟨lJ, sx, H⟩ := bd H
     refine tC H ?_ ?_ <;> clear H <;> intro c53 H <;> subst c53
     ·obtain ⟨wq, H⟩ := cL H
      obtain ⟨DA, PY⟩ := yv (KU ++ [rdOf ByteArray.empty ((aA aI bZ).f1) sH]); first | replace H := bW PY H | rw [← PY.1] at H
      have H' := am H
      repeat clear H
      have Z55 := nZ2 dJ dL fM gJ
      have Z57 := cz2 a6
      obtain ⟨Ae, Nq, Qo, Nr, Qp, Rd, Jq, NF, NG, Hl, Hg, Hm, Hh, a3E, a3L⟩ := aT52 bV HB bZ
      obtain rfl : oR = Ae := (by injection Rd)
      obtain ⟨Py, fl, lp, fm, lq, ms, Xl, YJ, YK, X0, Vj, Vr, Vk, aEQ, aF3⟩ := aT52 bV HB bZ
      obtain rfl : oR = Py := (by injection ms)
      obtain ⟨ea_, ec_⟩ := eZ2 NF YJ
      subst ea_
      subst ec_
      obtain ⟨ea_, ec_⟩ := eZ2 NG YK
      subst ea_
      subst ec_
      obtain ⟨zm, mu, Xm, aER, aF4⟩ := aS X0 HB sH
      cases mu
      go_wp2_with (first | ((with_reducible refine gC 46 ?_); refine cQ (some 56) Tryz.func46 (eP.calls k1 _ _ l2 (rdOf ByteArray.empty ((aA aI bZ).f1) sH) true _ (pB B0) yN.1 sx.out) ?_; rintro w' ⟨nd, rfl⟩; obtain ⟨zn, aA2, aBY, aA3, aBZ, aCW, a9K, Xn, Xo, Vs, a4V, a5B, a4W, aT5, aT7⟩ := aT52 bV HB bZ; obtain rfl : oR = zn := (by injection aCW); obtain ⟨ea_, ec_⟩ := eZ2 NF Xn; subst ea_; subst ec_; obtain ⟨ea_, ec_⟩ := eZ2 NG Xo; subst ea_; subst ec_; obtain ⟨SO, mv, NH, Te, Tj⟩ := aS Vs HB sH; cases mv) | ((with_reducible refine lQ (b := .append) (xs := #[.tmp 57, .tmp 67]) rfl ?_); at_builtin; refine Kd.wT Kd.string (w0 := w) w.heap.size rfl (.tmp 57) (.tmp 67) 23 9 (.string ⟨#[]⟩) 16 rfl Tryz.underlying23 sQ rfl (by decide) (by omega) u10 KU (rdOf ByteArray.empty ((aA aI bZ).f1) sH) [.string (rdOf ByteArray.empty ((aA aI bZ).f1) sH)] (F10 w (.slice t8 dB.length sR)) (fun _ => False) rfl rfl ?aP (fun _ hk => hk.elim) ?aF ?aO ?aB ?aS ?aL ?_; (case aP => exact rfl); (case aB => exact fW); (case aF => exact (fun k_ hk => ⟨(Nat.le_trans (aG fW) hk), Kd.fresh' (Kd.R_lt fU) k_ hk⟩)); (case aO => exact (rR qX.1)); (case aS => exact (aG fW)); (case aL => have := wq.out; omega); intro My w58 ho hb hg hat; rw [← PY.out] at ho; replace aH := am (Kd.uP (ok := (fun k_ => (w.heap.size ≤ k_))) fU hg hat); replace aD := am (Kd.vH (ok := (F13 w (.slice t8 dB.length sR) aW bK bC)) (by refine rN ?_; exact Kd.aJ aD.1 (fun _ hk => ⟨⟨hk.1, ⟨hk.2.2.1, ⟨hk.2.2.2.1, ⟨hk.2.2.2.2.1, hk.2.2.2.2.2⟩⟩⟩⟩, hk.2.1⟩)) hg hat); replace a6 := gkR d3 hg qX a6; replace aQ := gkR eW hg qX aQ; replace aV := gkR iD hg qX aV; replace HB := am hb; have C2 := am ho; clear qX; clear ho hb hg hat))
      go_roundg k1
      case measure => have := HK1.out; omega
      case rel => exact ⟨(DA), (wrap64 (sH + 1)), dU, H', ⟨by have := HK1.out; omega⟩, ⟨rR C2.1⟩, ⟨rR aH.1⟩, ⟨by refine rN ?_; exact Kd.aJ aD.1 (fun _ hk => ⟨hk.1.1, ⟨hk.2, ⟨hk.1.2.1, ⟨hk.1.2.2.1, ⟨hk.1.2.2.2.1, hk.1.2.2.2.2⟩⟩⟩⟩⟩)⟩, ⟨rB a6.1⟩, ⟨rB aQ.1⟩, ⟨rB aV.1⟩, ⟨fW⟩⟩
     ·have H' := am H
      repeat clear H
      have Z59 := nZ2 dJ dL fM gJ
      have Z61 := cz2 a6
      obtain ⟨Ae, Nq, Qo, Nr, Qp, Rd, Jq, NF, NG, Hl, Hg, Hm, Hh, a3E, a3L⟩ := aT52 bV HB bZ
      obtain rfl : oR = Ae := (by injection Rd)
      obtain ⟨Py, fl, lp, fm, lq, ms, Xl, YJ, YK, X0, Vj, Vr, Vk, aEQ, aF3⟩ := aT52 bV HB bZ
      obtain rfl : oR = Py := (by injection ms)
      obtain ⟨ea_, ec_⟩ := eZ2 NF YJ
      subst ea_
      subst ec_
      obtain ⟨ea_, ec_⟩ := eZ2 NG YK
      subst ea_
      subst ec_
      obtain ⟨zm, mu, Xm, aER, aF4⟩ := aS X0 HB sH
      cases mu
      go_wp2_with (first | ((with_reducible refine gC 46 ?_); refine cQ (some 56) Tryz.func46 (eP.calls k1 _ _ l2 (rdOf ByteArray.empty ((aA aI bZ).f1) sH) false _ (pB B0) yN.1 sx.out) ?_; rintro w' ⟨nd, rfl⟩))
      go_roundg k1
      case measure => have := HK1.out; omega
      case rel => exact ⟨(KU), (wrap64 (sH + 1)), dU, H', ⟨by have := HK1.out; omega⟩, ⟨rR qX.1⟩, ⟨rR aH.1⟩, ⟨rN aD.1⟩, ⟨rB a6.1⟩, ⟨rB aQ.1⟩, ⟨rB aV.1⟩, ⟨fW⟩⟩
    ·obtain ⟨uC, A62, H⟩ := bd H
     obtain ⟨a0H, H⟩ := cN H
     obtain ⟨M9, Pn, H⟩ := bY H
     obtain ⟨UB, ZZ⟩ := yv (M9.set (bZ : Int).toNat (⟨(aA M9 bZ).f0, KU, (aA M9 bZ).f2⟩ : S52)); first | replace H := bW ZZ H | rw [← ZZ.1] at H
     obtain ⟨⟨t131, Tv⟩, A66, H⟩ := bd H
     dsimp only at H
     obtain ⟨rfl, rfl, rfl⟩ := sZ3 H
     repeat clear H
     have Z67 := nZ2 dJ dL fM gJ
     have Z69 := cz2 a6
     obtain ⟨Ae, Nq, Qo, Nr, Qp, Rd, Jq, NF, NG, Hl, Hg, Hm, Hh, a3E, a3L⟩ := aT52 bV HB bZ
     obtain rfl : oR = Ae := (by injection Rd)
     try go_wp2
     replace qX := RD qX
     replace aH := RD aH
     replace aD := ND aD
     replace a6 := BD a6
     replace aQ := BD aQ
     replace aV := BD aV
     replace HB := am (aY HB.1)
     refine sT (S := fun w' => w'.cell? ⟨bC, 0, none⟩ = some (.slice t8 dB.length sR) ∧ w'.cell? ⟨bC, 1, none⟩ = some (.slice Nv bM.length MT)) [7] 8 ⟨⟨(bP aV.1 0).trans rfl, (bP aV.1 1).trans rfl⟩⟩ (fun hHeld => ?_)
     refine fP eT.Tx eT.Eh (fun HT_ HW_ => ?_)
     generalize wr.drew = w70 at qX aH aD a6 aQ aV HB hHeld ⊢
     refine pU3 0 2 3 ?_
     refine tK2 1 (some 70) ?_
     refine oN 4 (some 73) fun K hK => ?_
     refine gE Tryz.func36 (jE.calls _ _ l2 uC _ (pB B0) yN.1 A62.out) ?_
     rintro e Yv ⟨K7, rfl, eH, hb⟩
     refine ⟨_, rfl, ?_⟩
     replace aD := am (Kd.rW lE (Kd.bT eH) hb)
     have C3 := am (Kd.dO (Kd.fF (Kd.fF (Kd.pX (M := fun k_ => (w.heap.size ≤ k_)) eH (aG fW) (fun k_ h_ => h_)) (Kd.R_lt (rR qX.1))) (Kd.R_lt fU)) (aG fW))
     replace qX := am (Kd.dV (rR qX.1) (Kd.bT eH) hb)
     replace aH := am (Kd.dV fU (Kd.bT eH) hb)
     replace a6 := bB d3 hb
     replace aQ := bB eW hb
     replace aV := bB iD hb
     replace HB := bS fW hb
     clear hb eH
     have p64 : 0 ≤ (bZ : Int) := oT
     have q64 : (bZ : Int) < ((bM.length : Int) : Int) := oT
     obtain ⟨xV, aSQ, a1O, a1S, gl64, cl64, HG64⟩ := Kd.Dz aD.1 (by omega)
     (first | cases a1O | (injection a1O with ea_ en_ ec_; (first | subst ea_ | (injection ea_ with ea_; subst ea_)); subst ec_; clear en_))
     have GB64 := am a1S
     have GG64 := am HG64
     clear a1S gl64 HG64
     obtain ⟨ce64, hcl64, hM64, hcc64, hfr64⟩ := Kd.L8 aD.1 z52 (bZ : Int) p64 q64
     obtain ⟨ua64_1, uc64_1, ua64_2, uc64_2, rfl, aFB, aDX, aFC, aDY⟩ := wE hM64
     have aEM : World.cell? _ ⟨xV, (bZ : Int).toNat * 3, none⟩ = some (.string ((aA bM bZ).f0)) := hcc64 0 _ rfl
     have aEN : World.cell? _ ⟨xV, (bZ : Int).toNat * 3 + 1, none⟩ = some (.slice ua64_1 ((aA bM bZ).f1).length uc64_1) := hcc64 1 _ rfl
     have aEO : World.cell? _ ⟨xV, (bZ : Int).toNat * 3 + 2, none⟩ = some (.slice ua64_2 ((aA bM bZ).f2).length uc64_2) := hcc64 2 _ rfl
     have hf64_0 : World.frozen? _ ⟨xV, (bZ : Int).toNat * 3, none⟩ = false := hfr64 0
     have hf64_1 : World.frozen? _ ⟨xV, (bZ : Int).toNat * 3 + 1, none⟩ = false := hfr64 1
     have hf64_2 : World.frozen? _ ⟨xV, (bZ : Int).toNat * 3 + 2, none⟩ = false := hfr64 2
     clear hcl64 hcc64 hfr64 hM64
     replace p64 := eq_true p64
     replace q64 := eq_true q64
     have HX72 := am (show Kd.N k52 52 _ w.heap.size (F33 w u10 (.slice t8 dB.length sR) K7 aW bK bC) (.slice (some ⟨xV, 0, none⟩) bM.length MT) bM from (Kd.aJ (aD.1) (fun k_ hk => ⟨hk.1.1, ⟨hk.1.2.1, ⟨hk.1.2.2.1, ⟨hk.2, ⟨hk.1.2.2.2.1, ⟨hk.1.2.2.2.2.1, hk.1.2.2.2.2.2⟩⟩⟩⟩⟩⟩)))
     replace HX72 := am (show Kd.N k52 52 _ w.heap.size (F23 w u10 (.slice t8 dB.length sR) aW bK bC) (.slice (some ⟨xV, 0, none⟩) bM.length MT) bM from Kd.aJ HX72.out (fun k_ hk => ⟨hk.1, ⟨hk.2.1, ⟨hk.2.2.1, ⟨hk.2.2.2.2.1, ⟨hk.2.2.2.2.2.1, hk.2.2.2.2.2.2⟩⟩⟩⟩⟩))
     obtain ⟨ce72, hcl72, hM72, hcc72, hfr72⟩ := Kd.L8 HX72.out z52 (bZ : Int) (oT) (by have h_ : (bZ : Int) < ((bM.length : Int) : Int) := oT; first | exact h_ | (have e_ := (Kd.d9 aD.1).1; omega) | simpa using h_)
     obtain ⟨ua72_1, uc72_1, ua72_2, uc72_2, rfl, rx, pa, aFD, aDZ⟩ := wE hM72
     have HP72 := (Kd.Ph HX72.out (bZ : Int) (oT) (by have h_ : (bZ : Int) < ((bM.length : Int) : Int) := oT; first | exact h_ | (have e_ := (Kd.d9 aD.1).1; omega) | simpa using h_) (seg := [K7]) (j := 2) hcl72 hcc72 (show 3 ≤ 3 from by decide) (x' := (⟨(aA bM bZ).f0, (aA bM bZ).f1, uC⟩ : S52)) (Si _ _ (⟨(aA bM bZ).f0, (aA bM bZ).f1, uC⟩ : S52) rx pa (Kd.aT (ok' := (fun k_ => ((F23 w u10 (.slice t8 dB.length sR) aW bK bC)) k_ ∧ k_ ≠ xV)) (Kd.gZ (Kd.gZ (Kd.gZ (Kd.iU (C3.1) (Kd.lZ aD.1) (by decide)) a6.1 (by decide)) aQ.1 (by decide)) aV.1 (by decide)) (fun k_ hk => ⟨⟨hk.1.1.1.1.1.1.1, ⟨hk.1.1.1.1.1.2, ⟨hk.1.1.1.1.2, ⟨hk.1.1.2, ⟨hk.1.2, hk.2⟩⟩⟩⟩⟩, fun e_ => (hk.1.1.1.2) (by rw [e_]; rfl)⟩))) (fun _ hk => hk)).1
     rw [← Pn.out] at HP72
     have HQ72 := am HP72
     clear hcl72 hcc72 hfr72 hM72 HP72
     refine hK.out _ _ ⟨(bP aV.1 0).trans rfl, (bP aV.1 1).trans rfl⟩ (fun hHeld => ?_)
     clear hK K
     refine nM ?_
     refine pU2 5 6 ?_
     refine lN 7 none fun K hK => ?_
     refine AC (w1 := (Yv.setCell ⟨xV, (bZ : Int).toNat * 3 + 2, none⟩ (K7))) (by rfl) rfl ?_ ?_
     skip
     ·obtain ⟨Az_, cz_, ez_⟩ := Kd.cZ C3.1
      subst ez_
      go_simp
      (try rfl)
     refine hK.out _ _ ?_
     clear hK K
     refine dN ?_
     have n0_ : aC (Kd.R Kd.string 9 (Yv.setCell ⟨xV, (bZ : Int).toNat * 3 + 2, none⟩ (K7)) w.heap.size (F10 w (.slice t8 dB.length sR)) u10 KU) := ⟨by refine rR ?_; exact Kd.aT (Kd.u6 (p := ⟨xV, (bZ : Int).toNat * 3 + 2, none⟩) (tR qX GG64) (fun _ hk => hk.2) (K7)) (fun _ hk => ⟨hk.1.1.1, hk.1.1.2⟩)⟩
     have n1_ : aC (Kd.R Kd.string 9 (Yv.setCell ⟨xV, (bZ : Int).toNat * 3 + 2, none⟩ (K7)) w.heap.size (F10 w u10) (.slice t8 dB.length sR) dB) := ⟨by refine rR ?_; exact Kd.aT (Kd.u6 (p := ⟨xV, (bZ : Int).toNat * 3 + 2, none⟩) (tR aH GG64) (fun _ hk => hk.2) (K7)) (fun _ hk => ⟨hk.1.1.1, hk.1.1.2⟩)⟩
     have n2_ : aC (Kd.N k52 52 (Yv.setCell ⟨xV, (bZ : Int).toNat * 3 + 2, none⟩ (K7)) w.heap.size (F23 w u10 (.slice t8 dB.length sR) aW bK bC) (.slice (some ⟨xV, 0, none⟩) bM.length MT) M9) := ⟨rN HQ72.out⟩
     have n3_ : aC ((Yv.setCell ⟨xV, (bZ : Int).toNat * 3 + 2, none⟩ (K7)).heap[aW]? = some (.cells #[.slice eE aZ.length eF, .slice (some oR) aI.length eC] 26 (0, 0))) := ⟨by refine rB ?_; refine dD ?_ (by have h_ := Kd.HV aD.1 (fun _ hk => by first | exact hk.2.2.2.1 | exact hk.2.2.2.1.1 | exact hk.1.2.2.2.1); intro e_; exact h_ (by rw [e_]; rfl)) _; refine rB ?_; exact a6.1⟩
     have n4_ : aC ((Yv.setCell ⟨xV, (bZ : Int).toNat * 3 + 2, none⟩ (K7)).heap[bK]? = some (.cells #[.slice none 0 0, .slice none 0 0] 26 (0, 0))) := ⟨by refine rB ?_; refine dD ?_ (by have h_ := Kd.HV aD.1 (fun _ hk => by first | exact hk.2.2.2.2.1 | exact hk.2.2.2.2.1.1 | exact hk.1.2.2.2.2.1); intro e_; exact h_ (by rw [e_]; rfl)) _; refine rB ?_; exact aQ.1⟩
     have n5_ : aC ((Yv.setCell ⟨xV, (bZ : Int).toNat * 3 + 2, none⟩ (K7)).heap[bC]? = some (.cells #[.slice t8 dB.length sR, .slice (some ⟨xV, 0, none⟩) bM.length MT] 26 (0, 0))) := ⟨by refine rB ?_; refine dD ?_ (by have h_ := Kd.HV aD.1 (fun _ hk => by first | exact hk.2.2.2.2.2 | exact hk.2.2.2.2.2.1 | exact hk.1.2.2.2.2.2); intro e_; exact h_ (by rw [e_]; rfl)) _; refine rB ?_; exact aV.1⟩
     have n6_ : aC (Below w.heap.size w (Yv.setCell ⟨xV, (bZ : Int).toNat * 3 + 2, none⟩ (K7))) := ⟨by repeat (first | (with_reducible first | exact HB.1 | apply cB | apply bA | apply aY | refine aK ?_ GB64.out | refine aK ?_ j5.1 | refine aK ?_ oI.1 | refine aK ?_ sO.1) | exact HB.1)⟩
     (try clear qX)
     (try clear aH)
     (try clear aD)
     (try clear a6)
     (try clear aQ)
     (try clear aV)
     (try clear HB)
     generalize (Yv.setCell ⟨xV, (bZ : Int).toNat * 3 + 2, none⟩ (K7)) = w73 at n0_ n1_ n2_ n3_ n4_ n5_ n6_ ⊢
     have qX := n0_
     have aH := n1_
     have aD := n2_
     have a6 := n3_
     have aQ := n4_
     have aV := n5_
     have HB := n6_
     clear n0_ n1_ n2_ n3_ n4_ n5_ n6_
     have Z74 := nZ1 iL g4
     have Z75 := cz2 aV
     have p65 : 0 ≤ (bZ : Int) := oT
     have q65 : (bZ : Int) < ((bM.length : Int) : Int) := oT
     replace p65 := eq_true p65
     replace q65 := eq_true q65
     have HX76 := am (show Kd.N k52 52 w73 w.heap.size (F13 w (.slice t8 dB.length sR) aW bK bC) (.slice (some ⟨xV, 0, none⟩) bM.length MT) M9 from (by refine rN ?_; exact Kd.aJ aD.1 (fun _ hk => ⟨hk.1, ⟨hk.2.2.1, ⟨hk.2.2.2.1, ⟨hk.2.2.2.2.1, hk.2.2.2.2.2⟩⟩⟩⟩)))
     obtain ⟨ce76, hcl76, hM76, hcc76, hfr76⟩ := Kd.L8 HX76.out z52 (bZ : Int) (oT) (by have h_ : (bZ : Int) < ((bM.length : Int) : Int) := oT; first | exact h_ | (have e_ := (Kd.d9 aD.1).1; omega) | simpa using h_)
     obtain ⟨ua76_1, uc76_1, ua76_2, uc76_2, rfl, aFE, aE0, ry, pb⟩ := wE hM76
     have HP76 := Kd.Ph HX76.out (bZ : Int) (oT) (by have h_ : (bZ : Int) < ((bM.length : Int) : Int) := oT; first | exact h_ | (have e_ := (Kd.d9 aD.1).1; omega) | simpa using h_) (seg := [u10]) (j := 1) hcl76 hcc76 (show 2 ≤ 3 from by decide) (x' := (⟨(aA M9 bZ).f0, KU, (aA M9 bZ).f2⟩ : S52)) (Bw _ _ (⟨(aA M9 bZ).f0, KU, (aA M9 bZ).f2⟩ : S52) (Kd.aT (ok' := (fun k_ => ((F13 w (.slice t8 dB.length sR) aW bK bC)) k_ ∧ k_ ≠ xV)) (Kd.gZ (Kd.gZ (Kd.gZ (Kd.iU (qX.1) (Kd.lZ aD.1) (by decide)) a6.1 (by decide)) aQ.1 (by decide)) aV.1 (by decide)) (fun k_ hk => ⟨⟨hk.1.1.1.1.1, ⟨hk.1.1.1.1.2, ⟨hk.1.1.2, ⟨hk.1.2, hk.2⟩⟩⟩⟩, fun e_ => (hk.1.1.1.2) (by rw [e_]; rfl)⟩)) ry pb) (fun _ hk => hk)
     have pr := hcc76 1 _ rfl
     (try simp only [show (k52).sz = 3 from rfl, Nat.mul_one, Nat.add_zero] at pr)
     have hf76_1 := hfr76 1
     (try simp only [show (k52).sz = 3 from rfl, Nat.mul_one, Nat.add_zero] at hf76_1)
     clear hcl76 hcc76 hfr76 hM76
     try go_wp2_with (first | ((with_reducible refine FX (t := 23) (p := 81) rfl ?_); refine DY (t := 23) (p := 81) (v := ?vo_w77) (w1 := (w73.setCell ⟨xV, (bZ : Int).toNat * 3 + 1, none⟩ (u10))) ?hg ?ho ?hn ?hr ?_; (case ho => rfl); (case hg => rfl); (case hn => rfl); (case hr => (try (obtain ⟨Az_, cz_, ez_⟩ := Kd.cZ qX.1; subst ez_)); first | (go_simp; done) | (go_simp; rfl)); intro w77 hw; have hg : w73.grownBy w77 (some xV) := (by rw [hw]; exact HP76.2); have hp_ : Kd.N k52 52 w77 w.heap.size (F13 w (.slice t8 dB.length sR) aW bK bC) (.slice (some ⟨xV, 0, none⟩) bM.length MT) UB := (by rw [hw, ZZ.out]; exact HP76.1); clear HP76; replace aH := am (Kd.uQ (v := (.slice (some ⟨xV, 0, none⟩) bM.length MT)) fU (Kd.lZ aD.1) (by decide) hg); replace a6 := gkN d3 hg aD a6; replace aQ := gkN eW hg aD aQ; replace aV := gkN iD hg aD aV; replace aD := am hp_; replace HB := am (by rw [hw]; exact aK (HB.1) GB64.out : Below w.heap.size w w77); clear qX; clear hg hw hp_; have Z78 := cz2 aV) | ((with_reducible refine kV (f := 32) rfl ?_); refine uN (some 83) rfl rfl Tryz.func32 (by kernel_rfl) rfl #[.agg #[.slice t8 dB.length sR, .slice (some ⟨xV, 0, none⟩) UB.length MT]] rfl (by (try simp only [List.map_toArray, List.map_cons, List.map_nil]); first | done | (rw [show UB.length = bM.length from (Kd.d9 aD.1).1.symm] <;> rfl) | rfl | (simp only [List.length_drop, List.length_take]; rfl)) ?_; (with_reducible refine (dP.calls k1 _ _ dB _ _ UB t131 Tv _ ?side1 ?side2 ?side3 ?side4 A66.out).mono ?_); (case side1 => exact pC (Kd.bH aH.1).2.2); (case side2 => exact (Kd.bH aH.1).2.1); (case side3 => exact pC (Kd.d9 aD.1).2.2); (case side4 => rw [show UB.length = bM.length from (Kd.d9 aD.1).1.symm]; exact (Kd.d9 aD.1).2.1); rintro e w79 ⟨a4B, aFK, rfl, eH, lW, hb⟩; refine ⟨_, rfl, ?_⟩; have ZU := am (Kd.dO (Kd.fF (Kd.pX (M := fun k_ => (w.heap.size ≤ k_)) eH (aG fW) (fun k_ h_ => h_)) (Kd.R_lt fU)) (aG fW)); have y6 := am (Kd.jK (Kd.aJ (ok' := F33 w a4B (.slice t8 dB.length sR) (.slice (some ⟨xV, 0, none⟩) bM.length MT) aW bK bC) (Kd.S_N (Kd.lG lW)) (fun k_ hk_ => ⟨(Nat.le_trans (aG fW) hk_.2.1), hk_.1, (Kd.fresh' (Kd.R_lt fU) k_ hk_.2.1), (Kd.fresh' (Kd.N_lt lE) k_ hk_.2.1), (fB d3 k_ hk_.2.1), (fB eW k_ hk_.2.1), (fB iD k_ hk_.2.1)⟩)) (aG fW)); replace aH := am (Kd.dV fU (Kd.bT eH) hb); replace aD := am (Kd.aJ (Kd.eY (Kd.eY (Kd.mZ lE hb) (Kd.bT eH)) kN) (fun _ h_ => h_.1)); replace a6 := bB d3 hb; replace aQ := bB eW hb; replace aV := bB iD hb; replace HB := bS fW hb; clear hb eH lW; obtain ⟨aAU, aCQ, aDO⟩ := Kd.cZ ZU.1; subst aDO; have Z81 := cz2 aQ; obtain ⟨aAV, Wq, UE⟩ := Kd.gM y6.1; subst UE))
     refine cT bK 26 #[.slice aAU t131.length aCQ, .slice aAV Tv.length Wq] (qP aQ) Tryz.underlying26 ?_
     exact ⟨_, _, eR, mR ZU aQ, by refine rN ?_; exact Kd.aJ (fN (fN (Kd.aJ y6.1 (fun k_ hk => (⟨hk, hk.2.2.2.2.2.1⟩ : _ ∧ k_ ≠ bK))))) (fun _ hk => ⟨hk.1.1, hk.1.2.1⟩), fW⟩
  obtain ⟨rfl, rfl, rfl⟩ := sZ3 H
  repeat clear H
  go_enter Tryz.func10, Tryz.ntmps10
  go_wp2_with (first | ((with_reducible refine jW (N := 3) rfl ?_); refine rM ?hg (N := 3) ?hd (cs := #[.slice eE aZ.length eF, .slice eV aI.length eC]) (t := 26) ?hr ?_; (case hd => rfl); (case hg => rfl); (case hr => (try (obtain ⟨Az_, cz_, ez_⟩ := Kd.cZ qX.1; subst ez_)); first | (go_simp; done) | (go_simp; rfl)); intro aW hg w83 hbox hb; have a6 := am hbox; have iS := am (u4 : w.heap.size ≤ aW); have j5 := iS; replace HB := bS iJ hb; clear hb hbox hg) | ((with_reducible refine jW (N := 6) rfl ?_); refine rM ?hg (N := 6) ?hd (cs := #[.slice none 0 0, .slice none 0 0]) (t := 26) ?hr ?_; (case hd => rfl); (case hg => rfl); (case hr => (try (obtain ⟨Az_, cz_, ez_⟩ := Kd.cZ qX.1; subst ez_)); first | (go_simp; done) | (go_simp; rfl)); intro bK hg w84 hbox hb; have aQ := am hbox; have qJ := am (EF : w.heap.size ≤ bK); have oI := qJ; replace HB := bS fH hb; have dJ := nL d3 hg; have dL := nG d3 hg; replace a6 := bB d3 hb; clear hb hbox hg; have Z85 := nZ1 dJ dL; have Z86 := cz2 a6) | ((with_reducible refine gC 31 ?_); refine cQ (some 13) Tryz.func31 (aN.calls k _ _ aZ _ _ aI true _ (pB dT) dS.1 (pB bV) eS.1 A4.out) ?_; rintro w87 hb; replace a6 := bB d3 hb; replace aQ := bB eW hb; replace HB := bS kO hb; clear hb; have Z88 := cz2 a6) | ((with_reducible refine gC 32 ?_); refine cE (some 17) Tryz.func32 (dP.calls k _ _ aZ _ _ aI dB bM _ (pB dT) dS.1 (pB bV) eS.1 A6.out) ?_; rintro e w89 ⟨H6, D0, rfl, eH, lW, hb⟩; refine ⟨_, rfl, ?_⟩; have gG := am (Kd.dO (Kd.pX (M := fun k_ => (w.heap.size ≤ k_)) eH (aG kO) (fun k_ h_ => h_)) (aG kO)); have fD := am (Kd.jK (Kd.aJ (ok' := F12 w H6 aW bK) (Kd.S_N (Kd.lG lW)) (fun k_ hk_ => ⟨(Nat.le_trans (aG kO) hk_.2.1), hk_.1, (fB d3 k_ hk_.2.1), (fB eW k_ hk_.2.1)⟩)) (aG kO)); replace a6 := bB d3 hb; replace aQ := bB eW hb; replace HB := bS kO hb; clear hb eH lW) | ((with_reducible refine jW (N := 8) rfl ?_); refine rM ?hg (N := 8) ?hd (cs := #[.slice none 0 0, .slice none 0 0]) (t := 26) ?hr ?_; (case hd => rfl); (case hg => rfl); (case hr => (try (obtain ⟨Az_, cz_, ez_⟩ := Kd.cZ qX.1; subst ez_)); first | (go_simp; done) | (go_simp; rfl)); intro bC hg w90 hbox hb; replace gG := RB uB hb; replace fD := am (Kd.iI (Kd.jU yF bC (Nat.le_of_eq hg.symm)) hb); have aV := am hbox; have C1 := am (UN : w.heap.size ≤ bC); have sO := C1; replace HB := bS kO hb; have fM := nL d3 hg; have gJ := nG d3 hg; replace a6 := bB d3 hb; have g4 := nL eW hg; have iL := nG eW hg; replace aQ := bB eW hb; clear hb hbox hg; obtain ⟨Dr, Et, oz⟩ := Kd.cZ gG.1; subst oz; have Z92 := nZ2 gJ fM iL g4; have Z94 := cz2 aV; obtain ⟨Uz, Wr, aDW⟩ := Kd.gM fD.1; subst aDW; have Z96 := cz2 a6) | ((with_reducible refine gC 35 ?_); refine cQ (some 20) Tryz.func35 (iM.calls k _ _ aZ _ _ aI a1 bZ _ (Kd.aU dT.1 fW) dS.1 (Kd.aU bV.1 fW) eS.1 A7.out) ?_; rintro Yw hb; replace gG := am (Kd.jA (by refine rR ?_; exact (Kd.aT (fR (fR (tR gG aV))) (fun _ h_ => h_.1))) hb); replace fD := am (Kd.iI (by refine rN ?_; exact (Kd.aJ (fN (fN (Kd.aJ fD.1 (fun k_ hk => (⟨hk, hk.2⟩ : _ ∧ k_ ≠ bC))))) (fun _ h_ => h_.1))) hb); replace a6 := am (aX (g := aW) (o := .cells #[.slice eE aZ.length eF, .slice eV aI.length eC] 26 (0, 0)) YR hb); replace aQ := am (aX (g := bK) (o := .cells #[.slice none 0 0, .slice none 0 0] 26 (0, 0)) YS hb); replace aV := am (aX (g := bC) (o := .cells #[.slice Dr dB.length Et, .slice Uz bM.length Wr] 26 (0, 0)) (qP aV) hb); replace HB := bS fW hb; clear hb; have Z98 := cz2 a6; obtain ⟨oR, WJ, XB, WK, XC, LD, yA, BL, BM, ML, QZ, x6, y4, UK, UU⟩ := aT52 bV HB bZ; cases LD) | ((with_reducible refine gC 34 ?_); refine cQ (some 31) Tryz.func34 (dI.calls k _ _ l2 _ _ ((aA aI bZ).f2) false _ (pB B0) yN.1 (pB x6) y4.1 Za.out) ?_; rintro w' ⟨nd, rfl⟩; (try (rw [FV Yw]; generalize hq_ : World.drewN Yw _ = Yw; have n0_ : aC (Kd.R Kd.string 9 Yw w.heap.size (fun k_ => (((w.heap.size ≤ k_)) ∧ True)) (.slice Dr dB.length Et) dB) := ⟨by rw [← hq_]; exact uB⟩; have n1_ : aC (Kd.N k52 52 Yw w.heap.size (fun k_ => ((((w.heap.size ≤ k_)) ∧ (some k_ ≠ (.slice Dr dB.length Et : Value).ownBlock ∧ (k_ ≠ aW ∧ k_ ≠ bK))) ∧ k_ ≠ bC)) (.slice Uz bM.length Wr) bM) := ⟨by rw [← hq_]; exact yF⟩; have n2_ : aC (Yw.heap[aW]? = some (.cells #[.slice eE aZ.length eF, .slice (some oR) aI.length eC] 26 (0, 0))) := ⟨by rw [← hq_]; exact d3⟩; have n3_ : aC (Yw.heap[bK]? = some (.cells #[.slice none 0 0, .slice none 0 0] 26 (0, 0))) := ⟨by rw [← hq_]; exact eW⟩; have n4_ : aC (Yw.heap[bC]? = some (.cells #[.slice Dr dB.length Et, .slice Uz bM.length Wr] 26 (0, 0))) := ⟨by rw [← hq_]; exact iD⟩; have n5_ : aC (Below w.heap.size w Yw) := ⟨by rw [← hq_]; exact fW⟩; clear gG fD a6 aQ aV HB hq_; have gG := n0_; have fD := n1_; have a6 := n2_; have aQ := n3_; have aV := n4_; have HB := n5_; clear n0_ n1_ n2_ n3_ n4_ n5_)); have Z99 := cz2 aV; have aQS := cz2 aQ))
  refine cT bK 26 #[.slice Dr dB.length Et, .slice Uz bM.length Wr] (qP aQ) Tryz.underlying26 ?_
  exact ⟨_, _, eR, mR gG aQ, by refine rN ?_; exact Kd.aJ (fN (fN (Kd.aJ fD.1 (fun k_ hk => (⟨hk, hk.1.2.2.2⟩ : _ ∧ k_ ≠ bK))))) (fun _ hk => ⟨hk.1.1.1, hk.1.1.2.1⟩), fW⟩
 obtain ⟨rfl, rfl, rfl⟩ := sZ3 H
 repeat clear H
 go_enter Tryz.func10, Tryz.ntmps10
 go_wp2_with (first | ((with_reducible refine jW (N := 3) rfl ?_); refine rM ?hg (N := 3) ?hd (cs := #[.slice eE aZ.length eF, .slice eV aI.length eC]) (t := 26) ?hr ?_; (case hd => rfl); (case hg => rfl); (case hr => (try (obtain ⟨Az_, cz_, ez_⟩ := Kd.cZ qX.1; subst ez_)); first | (go_simp; done) | (go_simp; rfl)); intro aW hg aU1 hbox hb; have a6 := am hbox; have iS := am (u4 : w.heap.size ≤ aW); have j5 := iS; replace HB := bS iJ hb; clear hb hbox hg) | ((with_reducible refine jW (N := 6) rfl ?_); refine rM ?hg (N := 6) ?hd (cs := #[.slice none 0 0, .slice none 0 0]) (t := 26) ?hr ?_; (case hd => rfl); (case hg => rfl); (case hr => (try (obtain ⟨Az_, cz_, ez_⟩ := Kd.cZ qX.1; subst ez_)); first | (go_simp; done) | (go_simp; rfl)); intro bK hg aFR hbox hb; have aQ := am hbox; have qJ := am (EF : w.heap.size ≤ bK); have oI := qJ; replace HB := bS fH hb; have dJ := nL d3 hg; have dL := nG d3 hg; replace a6 := bB d3 hb; clear hb hbox hg; have aB6 := nZ1 dJ dL; have aB7 := cz2 a6) | ((with_reducible refine gC 31 ?_); refine cQ (some 13) Tryz.func31 (aN.calls k _ _ aZ _ _ aI false _ (pB dT) dS.1 (pB bV) eS.1 A4.out) ?_; rintro aU2 hb; replace a6 := bB d3 hb; replace aQ := bB eW hb; replace HB := bS kO hb; clear hb; have aQU := cz2 aQ))
 refine cT bK 26 #[.slice none 0 0, .slice none 0 0] ue Tryz.underlying26 ?_
 exact ⟨_, _, eR, by first | exact Kd.sP _ _ _ _ _ | exact Kd.yR _ _ _ _ _ | exact Kd.yT _ _ _ _ _ | exact Kd.yS _ _ _ _ _ | exact Kd.wU _ _ _ _ _, by first | exact Kd.wU _ _ _ _ _ | exact Kd.yR _ _ _ _ _ | exact Kd.yT _ _ _ _ _ | exact Kd.yS _ _ _ _ _ | exact Kd.sP _ _ _ _ _, kO⟩
abbrev MB := S52
abbrev KB := k52
def BkS (w0 w : World) (lo hi : Nat) (v0 v1 : Value) (l0 : List ByteArray) (l1 : List MB) : Prop :=
  Kd.R Kd.string 9 w w0.heap.size (fun k => lo ≤ k ∧ k < hi) v0 l0 ∧ Kd.S KB 52 w w0.heap.size (fun k => (lo ≤ k ∧ k < hi) ∧ some k ≠ v0.ownBlock) v1 l1
def RwS (w0 w : World) (lo hi : Nat) (v : Value) (l : List ByteArray) : Prop := Kd.R Kd.string 9 w w0.heap.size (fun k => lo ≤ k ∧ k < hi) v l
section
variable {w0 w w' : World} {lo hi n : Nat} {v0 v1 v : Value} {l0 l r1 : List ByteArray} {l1 r2 : List MB} {S : Nat → Prop}
theorem BkS.kept (h : BkS w0 w lo hi v0 v1 l0 l1) (hk : Kept w w' S) (hS : ∀ k, lo ≤ k → k < hi → ¬ S k) : BkS w0 w' lo hi v0 v1 l0 l1 :=
  ⟨Kd.C8 h.1 hk (fun k e => hS k e.1 e.2), Kd.Ec h.2 hk (fun k e => hS k e.1.1 e.1.2)⟩
theorem RwS.kept (h : RwS w0 w lo hi v l) (hk : Kept w w' S) (hS : ∀ k, lo ≤ k → k < hi → ¬ S k) : RwS w0 w' lo hi v l := Kd.C8 h hk (fun k e => hS k e.1 e.2)
theorem BkS.made (eH : Kd.R Kd.string 9 w' w.heap.size (fun _ => True) v0 r1) (lW : Kd.S KB 52 w' w.heap.size (fun k => some k ≠ v0.ownBlock) v1 r2) (h0 : w0.heap.size ≤ n) (hn : n ≤ w.heap.size) : BkS w0 w' n w'.heap.size v0 v1 r1 r2 :=
  ⟨Kd.dO (Kd.aT (Kd.sW eH) (fun k h => ⟨Nat.le_trans hn h.2.1, h.2.2.1⟩)) (Nat.le_trans h0 hn), Kd.X6 (Kd.gX (Kd.lG lW) (fun k h => ⟨⟨Nat.le_trans hn h.2.1, h.2.2.1⟩, h.1⟩)) (Nat.le_trans h0 hn)⟩
theorem RwS.made (eH : Kd.R Kd.string 9 w' w.heap.size (fun _ => True) v l) (h0 : w0.heap.size ≤ n) (hn : n ≤ w.heap.size) : RwS w0 w' n w'.heap.size v l :=
  Kd.dO (Kd.aT (Kd.sW eH) (fun k h => ⟨Nat.le_trans hn h.2.1, h.2.2.1⟩)) (Nat.le_trans h0 hn)
theorem BkS.slices (h : BkS w0 w lo hi v0 v1 l0 l1) : ∃ A0 c0 A1 c1, v0 = .slice A0 l0.length c0 ∧ v1 = .slice A1 l1.length c1 := by
 obtain ⟨A0, c0, e0⟩ := Kd.cZ h.1
 obtain ⟨A1, c1, e1⟩ := Kd.FN h.2
 exact ⟨A0, c0, A1, c1, e0, e1⟩
theorem RwS.slices (h : RwS w0 w lo hi v l) : ∃ A0 c0, v = .slice A0 l.length c0 := Kd.cZ h
end
theorem Bv {α : Type} {c : Prop} [Decidable c] {a : Option α} {b : α} (h : (if c then a else none) = some b) : c ∧ a = some b := by
 by_cases hc : c
 ·rw [if_pos hc] at h; exact ⟨hc, h⟩
 rw [if_neg hc] at h; cases h
theorem Kept.noth {w w' : World} (h : Below w.heap.size w w') : Kept w w' (fun _ => False) := Kept.of_below h _
theorem Kept.two {w : World} {g : Nat} (a b : Nat) (u v : Value) : Kept w ((w.setCell ⟨g, a, none⟩ u).setCell ⟨g, b, none⟩ v) (fun k => k = g) :=
  Kept.setCell (p := ⟨g, b, none⟩) (Kept.setCell (p := ⟨g, a, none⟩) (Kept.refl w (fun k => k = g)) (Or.inl rfl) u) (Or.inl rfl) v
mutual
def dX.j0 : Nat → ByteArray → Bool → Option (Bool)
 | 0, _, _ => none
 | k + 1, a, b => if b = true then (some false) else (dX.l0 k a 0)
def dX.l0 : Nat → ByteArray → Int → Option (Bool)
 | 0, _, _ => none
 | k + 1, b, a => if a < (b.size : Int) then (if 0 ≤ a then (if (bt b a) ≥ 97 then (if (bt b a) ≤ 122 then (dX.l0 k b (wrap64 (a + 1))) else (if (bt b a) ≥ 48 then (if (bt b a) ≤ 57 then (dX.l0 k b (wrap64 (a + 1))) else (if ((bt b a) = 45) then (dX.l0 k b (wrap64 (a + 1))) else (some false))) else (if ((bt b a) = 45) then (dX.l0 k b (wrap64 (a + 1))) else (some false)))) else (if (bt b a) ≥ 48 then (if (bt b a) ≤ 57 then (dX.l0 k b (wrap64 (a + 1))) else (if ((bt b a) = 45) then (dX.l0 k b (wrap64 (a + 1))) else (some false))) else (if ((bt b a) = 45) then (dX.l0 k b (wrap64 (a + 1))) else (some false)))) else (none)) else (some true)
end
def dX.f (k : Nat) (a0 : ByteArray) : Option (Bool) := if (a0.size : Int) < 1 then (dX.j0 k a0 true) else (dX.j0 k a0 (decide ((a0.size : Int) > 8)))
theorem dX.TQ : ∀ k, (∀ y0 y1, LeO (dX.j0 k y0 y1) (dX.j0 (k + 1) y0 y1)) ∧ (∀ y0 y1, LeO (dX.l0 k y0 y1) (dX.l0 (k + 1) y0 y1))
 | 0 => ⟨fun _ _ r h => by simp [dX.j0] at h, fun _ _ r h => by simp [dX.l0] at h⟩
 | k + 1 => by
  obtain ⟨ih0, ih1⟩ := dX.TQ k
  refine ⟨?_, ?_⟩
  ·intro y0 y1
   unfold dX.j0
   repeat' first
   | (with_reducible exact ih0 _ _)
   | (with_reducible exact ih1 _ _)
   | (with_reducible exact LeO.refl _)
   | (with_reducible exact LeO.none _)
   | (with_reducible refine LeO.ite ?_ ?_)
   | (with_reducible refine LeO.bind ?_ (fun _ => ?_))
   | exact ih0 _ _
   | exact ih1 _ _
   | exact LeO.none _
   | refine LeO.ite ?_ ?_
   | refine LeO.bind ?_ (fun _ => ?_)
  ·intro y0 y1
   unfold dX.l0
   repeat' first
   | (with_reducible exact ih0 _ _)
   | (with_reducible exact ih1 _ _)
   | (with_reducible exact LeO.refl _)
   | (with_reducible exact LeO.none _)
   | (with_reducible refine LeO.ite ?_ ?_)
   | (with_reducible refine LeO.bind ?_ (fun _ => ?_))
   | exact ih0 _ _
   | exact ih1 _ _
   | exact LeO.none _
   | refine LeO.ite ?_ ?_
   | refine LeO.bind ?_ (fun _ => ?_)
theorem dX.mono : ∀ a0 k, LeO (dX.f k a0) (dX.f (k + 1) a0) := by
 intro a0 k
 obtain ⟨ih0, ih1⟩ := dX.TQ k
 unfold dX.f
 repeat' first
   | (with_reducible exact ih0 _ _)
   | (with_reducible exact ih1 _ _)
   | (with_reducible exact LeO.refl _)
   | (with_reducible exact LeO.none _)
   | (with_reducible refine LeO.ite ?_ ?_)
   | (with_reducible refine LeO.bind ?_ (fun _ => ?_))
   | exact ih0 _ _
   | exact ih1 _ _
   | exact LeO.none _
   | refine LeO.ite ?_ ?_
   | refine LeO.bind ?_ (fun _ => ?_)
theorem dX.calls (k : Nat) (a0 : ByteArray) (r : Bool) (w : World) (h : dX.f k a0 = some r) :
  Calls Tryz.prog 25 #[.string a0] w fun e w' => e = .returned (.bool r) ∧ kX w w' := by
 unfold dX.f at h
 have H := h
 clear h
 have yN := am H
 clear H
 go_enter Tryz.func25, Tryz.ntmps25
 go_upto_region 1 with ((fail))
 go_cut [12] (fun v12 wc => ∃ (kq : Nat) (qQ : Bool), v12 = .bool qQ ∧ aC (dX.j0 kq a0 qQ = some r) ∧ aC (kq ≤ k) ∧ kX w wc)
 case first =>
  have H := yN.1
  clear yN
  by_cases c3 : (a0.size : Int) < 1
  ·rw [if_pos c3] at H
   have FS : decide ((a0.size : Int) < 1) = true := decide_eq_true c3
   have Le : decide (a0.size < 1) = true := decide_eq_true (by omega)
   clear c3
   (first | rw [FS] | (simp only [sD, wV]; rw [FS]) | skip)
   have H' := am H
   repeat clear H
   go_wp2
   go_meet
   exact ⟨_, (true), dU, H', ⟨by first | omega | exact Nat.le_refl _⟩, iB⟩
  rw [if_neg c3] at H
  have FS : decide ((a0.size : Int) < 1) = false := decide_eq_false c3
  have Le : decide (a0.size < 1) = false := decide_eq_false (by omega)
  clear c3
  (first | rw [FS] | (simp only [sD, wV]; rw [FS]) | skip)
  have H' := am H
  repeat clear H
  go_wp2
  go_meet
  exact ⟨_, (decide ((a0.size : Int) > 8)), dU, H', ⟨by first | omega | exact Nat.le_refl _⟩, iB⟩
 clear yN
 obtain ⟨kq, qQ, rfl, HA, HJ1, ⟨mc1, rfl⟩⟩ := hcut
 cases kq with
 | zero => exact absurd HA.out (by simp [dX.j0])
 | succ kj1 =>
  have H := HA.out
  clear HA
  simp only [dX.j0] at H
  refine tC H ?_ ?_ <;> (repeat clear H) <;> intro c4 H <;> subst c4
  ·obtain rfl := Option.some.inj H
   repeat clear H
   go_wp2
   go_ret
   exact ⟨by first | rfl | (simp; done) | (simp [*]; done), iB⟩
  ·have H' := am H
   repeat clear H
   go_wp2
   go_loopg [3] kj1 (fun kq v3 w' => ∃ (iP : Int), v3 = .int .i64 iP ∧ aC (dX.l0 kq a0 iP = some r) ∧ aC (kq ≤ kj1) ∧ kX w w')
   case atStart => exact ⟨(0), dU, H', ⟨Nat.le_refl _⟩, iB⟩
   case round =>
    clear H'
    try clear c4
    obtain ⟨iP, rfl, HA, HK2, ⟨m2, rfl⟩⟩ := hrel
    cases gk with
    | zero => exact absurd HA.out (by simp [dX.l0])
    | succ k2 =>
     have H := HA.out
     clear HA
     simp only [dX.l0] at H
     refine ic H ?_ ?_ <;> clear H <;> intro FT H
     ·obtain ⟨MQ, H⟩ := cN H
      by_cases c8 : (bt a0 iP) ≥ 97
      ·rw [if_pos c8] at H
       have H3 : decide (97 ≤ (bt a0 iP)) = true := decide_eq_true c8
       clear c8
       refine ic H ?_ ?_ <;> clear H <;> intro FU H
       ·have H' := am H
        repeat clear H
        obtain ⟨Uu, p7, q7⟩ := aB a0 iP
        go_wp2
        go_roundg k2
        case measure => have := HJ1.out; have := HK2.out; omega
        case rel => exact ⟨(wrap64 (iP + 1)), dU, H', ⟨by have := HJ1.out; have := HK2.out; omega⟩, iB⟩
       ·by_cases Ai : (bt a0 iP) ≥ 48
        ·rw [if_pos Ai] at H
         have I7 : decide (48 ≤ (bt a0 iP)) = true := decide_eq_true Ai
         clear Ai
         refine ic H ?_ ?_ <;> clear H <;> intro I8 H
         ·have H' := am H
          repeat clear H
          obtain ⟨Uu, p7, q7⟩ := aB a0 iP
          go_wp2
          go_roundg k2
          case measure => have := HJ1.out; have := HK2.out; omega
          case rel => exact ⟨(wrap64 (iP + 1)), dU, H', ⟨by have := HJ1.out; have := HK2.out; omega⟩, iB⟩
         ·refine iq H ?_ ?_ <;> clear H <;> intro c12 SU zx H
          ·have H' := am H
           repeat clear H
           obtain ⟨Uu, p7, q7⟩ := aB a0 iP
           go_wp2
           go_roundg k2
           case measure => have := HJ1.out; have := HK2.out; omega
           case rel => exact ⟨(wrap64 (iP + 1)), dU, H', ⟨by have := HJ1.out; have := HK2.out; omega⟩, iB⟩
          ·obtain rfl := Option.some.inj H
           repeat clear H
           obtain ⟨Uu, p7, q7⟩ := aB a0 iP
           go_wp2
           go_ret
           exact ⟨by first | rfl | (simp; done) | (simp [*]; done), iB⟩
        ·rw [if_neg Ai] at H
         have I7 : decide (48 ≤ (bt a0 iP)) = false := decide_eq_false Ai
         clear Ai
         refine iq H ?_ ?_ <;> clear H <;> intro Lb VI zy H
         ·have H' := am H
          repeat clear H
          obtain ⟨Uu, p7, q7⟩ := aB a0 iP
          go_wp2
          go_roundg k2
          case measure => have := HJ1.out; have := HK2.out; omega
          case rel => exact ⟨(wrap64 (iP + 1)), dU, H', ⟨by have := HJ1.out; have := HK2.out; omega⟩, iB⟩
         ·obtain rfl := Option.some.inj H
          repeat clear H
          obtain ⟨Uu, p7, q7⟩ := aB a0 iP
          go_wp2
          go_ret
          exact ⟨by first | rfl | (simp; done) | (simp [*]; done), iB⟩
      ·rw [if_neg c8] at H
       have H3 : decide (97 ≤ (bt a0 iP)) = false := decide_eq_false c8
       clear c8
       by_cases Dl : (bt a0 iP) ≥ 48
       ·rw [if_pos Dl] at H
        have Aj : decide (48 ≤ (bt a0 iP)) = true := decide_eq_true Dl
        clear Dl
        refine ic H ?_ ?_ <;> clear H <;> intro Ak H
        ·have H' := am H
         repeat clear H
         obtain ⟨Uu, p7, q7⟩ := aB a0 iP
         go_wp2
         go_roundg k2
         case measure => have := HJ1.out; have := HK2.out; omega
         case rel => exact ⟨(wrap64 (iP + 1)), dU, H', ⟨by have := HJ1.out; have := HK2.out; omega⟩, iB⟩
        ·refine iq H ?_ ?_ <;> clear H <;> intro Al GY Qr H
         ·have H' := am H
          repeat clear H
          obtain ⟨Uu, p7, q7⟩ := aB a0 iP
          go_wp2
          go_roundg k2
          case measure => have := HJ1.out; have := HK2.out; omega
          case rel => exact ⟨(wrap64 (iP + 1)), dU, H', ⟨by have := HJ1.out; have := HK2.out; omega⟩, iB⟩
         ·obtain rfl := Option.some.inj H
          repeat clear H
          obtain ⟨Uu, p7, q7⟩ := aB a0 iP
          go_wp2
          go_ret
          exact ⟨by first | rfl | (simp; done) | (simp [*]; done), iB⟩
       ·rw [if_neg Dl] at H
        have Aj : decide (48 ≤ (bt a0 iP)) = false := decide_eq_false Dl
        clear Dl
        refine iq H ?_ ?_ <;> clear H <;> intro c17 Ii aJZ H
        ·have H' := am H
         repeat clear H
         obtain ⟨Uu, p7, q7⟩ := aB a0 iP
         go_wp2
         go_roundg k2
         case measure => have := HJ1.out; have := HK2.out; omega
         case rel => exact ⟨(wrap64 (iP + 1)), dU, H', ⟨by have := HJ1.out; have := HK2.out; omega⟩, iB⟩
        ·obtain rfl := Option.some.inj H
         repeat clear H
         obtain ⟨Uu, p7, q7⟩ := aB a0 iP
         go_wp2
         go_ret
         exact ⟨by first | rfl | (simp; done) | (simp [*]; done), iB⟩
     ·obtain rfl := Option.some.inj H
      repeat clear H
      go_wp2
      go_ret
      exact ⟨by first | rfl | (simp; done) | (simp [*]; done), iB⟩
end Go.Proofs.YtaofjgnhapnndaaGreat.Q
namespace Go.Proofs.YtaofjgnhapnndaaGreat.Q
open Go.RowKit Go.Proofs.YtaofjgnhapnndaaGreatW.PrintWords Go.Proofs.YtaofjgnhapnndaaGreatW.PrintLast Go.Proofs.YtaofjgnhapnndaaGreatW.PrintMore
set_option linter.unusedVariables false
set_option linter.unusedSimpArgs false
def bL.l0 : Nat → List ByteArray → ByteArray → Int → Int → Option (Int)
 | 0, _, _, _, _ => none
 | k + 1, b, c, d, a => if a < d then (if 0 ≤ a then (if a < (b.length : Int) then (if c.toList = (rdOf ByteArray.empty b a).toList then (some a) else (bL.l0 k b c d (wrap64 (a + 1)))) else (none)) else (none)) else (some (-1))
def bL.f (k : Nat) (l0 : List ByteArray) (a1 : ByteArray) : Option (Int) := bL.l0 k l0 a1 (l0.length : Int) 0
theorem bL.TQ : ∀ k, (∀ y0 y1 y2 y3, LeO (bL.l0 k y0 y1 y2 y3) (bL.l0 (k + 1) y0 y1 y2 y3))
 | 0 => fun _ _ _ _ r h => by simp [bL.l0] at h
 | k + 1 => by
  have ih0 := bL.TQ k
  ·intro y0 y1 y2 y3
   unfold bL.l0
   repeat' first
   | (with_reducible exact ih0 _ _ _ _)
   | (with_reducible exact LeO.refl _)
   | (with_reducible exact LeO.none _)
   | (with_reducible refine LeO.ite ?_ ?_)
   | (with_reducible refine LeO.bind ?_ (fun _ => ?_))
   | exact ih0 _ _ _ _
   | exact LeO.none _
   | refine LeO.ite ?_ ?_
   | refine LeO.bind ?_ (fun _ => ?_)
theorem bL.mono : ∀ a0 a1 k, LeO (bL.f k a0 a1) (bL.f (k + 1) a0 a1) := by
 intro a0 a1 k
 have ih0 := bL.TQ k
 unfold bL.f
 repeat' first
   | (with_reducible exact ih0 _ _ _ _)
   | (with_reducible exact LeO.refl _)
   | (with_reducible exact LeO.none _)
   | (with_reducible refine LeO.ite ?_ ?_)
   | (with_reducible refine LeO.bind ?_ (fun _ => ?_))
   | exact ih0 _ _ _ _
   | exact LeO.none _
   | refine LeO.ite ?_ ?_
   | refine LeO.bind ?_ (fun _ => ?_)
theorem bL.calls (k : Nat) (A0 : Option Addr) (c0 : Nat) (l0 : List ByteArray) (a1 : ByteArray) (r : Int) (w : World) (tM : Kd.C Kd.string w A0 l0.length l0) (yO : l0.length ≤ c0) (h : bL.f k l0 a1 = some r) :
  Calls Tryz.prog 71 #[.slice A0 l0.length c0, .string a1] w fun e w' => e = .returned (.int .i64 r) ∧ kX w w' := by
 obtain ⟨tV, S0⟩ := mZ2 tM yO
 clear tM yO
 unfold bL.f at h
 have H := h
 clear h
 have H' := am H
 repeat clear H
 go_enter Tryz.func71, Tryz.ntmps71
 go_wp2
 go_loopg [8] k (fun kq v8 w' => ∃ (AE : Int), v8 = .int .i64 AE ∧ aC (bL.l0 kq l0 a1 (l0.length : Int) AE = some r) ∧ aC (kq ≤ k) ∧ kX w w')
 case atStart => exact ⟨(0), dU, H', ⟨Nat.le_refl _⟩, iB⟩
 clear H'
 obtain ⟨AE, rfl, HA, HK1, ⟨m1, rfl⟩⟩ := hrel
 cases gk with
 | zero => exact absurd HA.out (by simp [bL.l0])
 | succ k1 =>
  have H := HA.out
  clear HA
  simp only [bL.l0] at H
  refine ic H ?_ ?_ <;> clear H <;> intro FS H
  ·obtain ⟨CH, H⟩ := cN H
   obtain ⟨FT, H⟩ := cN H
   refine iq H ?_ ?_ <;> clear H <;> intro c6 MQ En H
   ·obtain rfl := Option.some.inj H
    repeat clear H
    obtain ⟨kM, oE, lH, yE, yH⟩ := aS tV b0 AE
    cases oE
    go_wp2
    go_ret
    exact ⟨by first | rfl | (simp; done) | (simp [*]; done), iB⟩
   ·have H' := am H
    repeat clear H
    obtain ⟨kM, oE, lH, yE, yH⟩ := aS tV b0 AE
    cases oE
    go_wp2
    go_roundg k1
    case measure => have := HK1.out; omega
    case rel => exact ⟨(wrap64 (AE + 1)), dU, H', ⟨by have := HK1.out; omega⟩, iB⟩
  ·obtain rfl := Option.some.inj H
   repeat clear H
   go_wp2
   go_ret
   exact ⟨by first | rfl | (simp; done) | (simp [*]; done), iB⟩
def bJ.f (k : Nat) (l0 : List ByteArray) (a1 : ByteArray) : Option (Bool) := (bL.f k l0 a1).bind fun a => (some (decide (a ≥ 0)))
theorem bJ.mono : ∀ a0 a1 k, LeO (bJ.f k a0 a1) (bJ.f (k + 1) a0 a1) := by
 intro a0 a1 k
 unfold bJ.f
 repeat' first
   | (with_reducible exact bL.mono _ _ _)
   | (with_reducible exact LeO.refl _)
   | (with_reducible exact LeO.none _)
   | (with_reducible refine LeO.ite ?_ ?_)
   | (with_reducible refine LeO.bind ?_ (fun _ => ?_))
   | exact bL.mono _ _ _
   | exact LeO.none _
   | refine LeO.ite ?_ ?_
   | refine LeO.bind ?_ (fun _ => ?_)
theorem bJ.calls (k : Nat) (A0 : Option Addr) (c0 : Nat) (l0 : List ByteArray) (a1 : ByteArray) (r : Bool) (w : World) (tM : Kd.C Kd.string w A0 l0.length l0) (yO : l0.length ≤ c0) (h : bJ.f k l0 a1 = some r) :
  Calls Tryz.prog 45 #[.slice A0 l0.length c0, .string a1] w fun e w' => e = .returned (.bool r) ∧ kX w w' := by
 obtain ⟨tV, S0⟩ := mZ2 tM yO
 clear tM yO
 unfold bJ.f at h
 have H := h
 clear h
 obtain ⟨PJ, A3, H⟩ := bd H
 obtain rfl := Option.some.inj H
 repeat clear H
 go_enter Tryz.func45, Tryz.ntmps45
 go_wp2_with (first | ((with_reducible refine gC 71 ?_); refine cQ (some 7) Tryz.func71 (bL.calls k _ _ l0 a1 PJ _ (pC tV.1) S0.1 A3.out) ?_; rintro w' ⟨nd, rfl⟩))
 go_ret
 exact ⟨by first | rfl | (simp; done) | (simp [*]; done), iB⟩
def iC.l0 : Nat → List ByteArray → List ByteArray → List ByteArray → Int → Int → Option (Bool)
 | 0, _, _, _, _, _ => none
 | k + 1, c, d, b, e, a => if a < e then (if 0 ≤ a then (if a < (b.length : Int) then ((bJ.f k d (rdOf ByteArray.empty b a)).bind fun g => (if g = true then (if a > 0 then (if 0 ≤ (wrap64 (a - 1)) then (if (wrap64 (a - 1)) < (c.length : Int) then (if ((Op.bytesLess ((rdOf ByteArray.empty c (wrap64 (a - 1))).toList) ((rdOf ByteArray.empty b a).toList)) = true) then (iC.l0 k c d b e (wrap64 (a + 1))) else (some false)) else (none)) else (none)) else (iC.l0 k c d b e (wrap64 (a + 1)))) else (some false))) else (none)) else (none)) else (some true)
def iC.f (k : Nat) (l0 : List ByteArray) (l1 : List ByteArray) : Option (Bool) := iC.l0 k l0 l1 l0 (l0.length : Int) 0
theorem iC.calls (k : Nat) (A0 : Option Addr) (c0 : Nat) (l0 : List ByteArray) (A1 : Option Addr) (c1 : Nat) (l1 : List ByteArray) (r : Bool) (w : World) (tM : Kd.C Kd.string w A0 l0.length l0) (yO : l0.length ≤ c0) (H5 : Kd.C Kd.string w A1 l1.length l1) (H4 : l1.length ≤ c1) (h : iC.f k l0 l1 = some r) :
  Calls Tryz.prog 26 #[.slice A0 l0.length c0, .slice A1 l1.length c1] w fun e w' => e = .returned (.bool r) ∧ kX w w' := by
 obtain ⟨tV, S0⟩ := mZ2 tM yO
 obtain ⟨HH, KY⟩ := mZ2 H5 H4
 clear tM yO H5 H4
 unfold iC.f at h
 have H := h
 clear h
 have H' := am H
 repeat clear H
 go_enter Tryz.func26, Tryz.ntmps26
 go_wp2
 go_loopg [9] k (fun kq v9 w' => ∃ (GN : Int), v9 = .int .i64 GN ∧ aC (iC.l0 kq l0 l1 l0 (l0.length : Int) GN = some r) ∧ aC (kq ≤ k) ∧ kX w w')
 case atStart => exact ⟨(0), dU, H', ⟨Nat.le_refl _⟩, iB⟩
 clear H'
 try clear c1
 obtain ⟨GN, rfl, HA, HK1, ⟨m1, rfl⟩⟩ := hrel
 cases gk with
 | zero => exact absurd HA.out (by simp [iC.l0])
 | succ k1 =>
  have H := HA.out
  clear HA
  simp only [iC.l0] at H
  refine ic H ?_ ?_ <;> clear H <;> intro FS H
  obtain ⟨CH, H⟩ := cN H
  obtain ⟨FT, H⟩ := cN H
  obtain ⟨vA, A6, H⟩ := bd H
  refine tC H ?_ ?_ <;> clear H <;> intro c7 H <;> subst c7
  by_cases c8 : GN > 0
  rw [if_pos c8] at H
  have H3 : decide (0 < GN) = true := decide_eq_true c8
  clear c8
  obtain ⟨ji9, hji9⟩ : ∃ j_ : Int, (wrap64 (GN - 1)) = j_ := ⟨_, rfl⟩
  replace H : (if 0 ≤ (ji9) then (if (ji9) < (l0.length : Int) then (if ((Op.bytesLess ((rdOf ByteArray.empty l0 (ji9)).toList) ((rdOf ByteArray.empty l0 GN).toList)) = true) then (iC.l0 k1 l0 l1 l0 (l0.length : Int) (wrap64 (GN + 1))) else (some false)) else (none)) else (none)) = some r := by first | (rw [hji9] at H; exact H) | (simp only [hji9] at H ⊢; exact H)
  (try rw [hji9] at A6)
  have hji9w : (IntKind.i64.wrap (GN - 1)) = ji9 := (sD _).trans hji9
  obtain ⟨I7, H⟩ := cN H
  obtain ⟨I8, H⟩ := cN H
  refine tC H ?_ ?_ <;> clear H <;> intro SU H
  have H' := am H
  repeat clear H
  obtain ⟨kM, oE, lH, yE, yH⟩ := aS tV b0 GN
  cases oE
  have jb := trivial
  rotate_left
  obtain rfl := Option.some.inj H
  repeat clear H
  obtain ⟨kM, oE, lH, yE, yH⟩ := aS tV b0 GN
  cases oE
  have jb := trivial
  rotate_left
  rw [if_neg c8] at H
  have H3 : decide (0 < GN) = false := decide_eq_false c8
  clear c8
  have H' := am H
  repeat clear H
  obtain ⟨kM, oE, lH, yE, yH⟩ := aS tV b0 GN
  cases oE
  have wz := trivial
  rotate_left
  obtain rfl := Option.some.inj H
  repeat clear H
  obtain ⟨kM, oE, lH, yE, yH⟩ := aS tV b0 GN
  cases oE
  have xa := trivial
  rotate_left
  obtain rfl := Option.some.inj H
  repeat clear H
  rotate_left
  all_goals
   go_wp2_with (first | ((with_reducible refine gC 45 ?_); revert jb; intro jb; refine cQ (some 16) Tryz.func45 (bJ.calls k1 _ _ l1 (rdOf ByteArray.empty l0 GN) true _ (pC HH.1) KY.1 A6.out) ?_; rintro w' ⟨nd, rfl⟩; obtain ⟨pK, zG, sA, G7, GA⟩ := aS tV b0 (ji9); obtain rfl : kM = pK := (by injection zG)) | ((with_reducible refine gC 45 ?_); revert wz; intro wz; refine cQ (some 16) Tryz.func45 (bJ.calls k1 _ _ l1 (rdOf ByteArray.empty l0 GN) true _ (pC HH.1) KY.1 A6.out) ?_; rintro w' ⟨nd, rfl⟩) | ((with_reducible refine gC 45 ?_); revert xa; intro xa; refine cQ (some 16) Tryz.func45 (bJ.calls k1 _ _ l1 (rdOf ByteArray.empty l0 GN) false _ (pC HH.1) KY.1 A6.out) ?_; rintro w' ⟨nd, rfl⟩))
  ·go_roundg k1
   case measure => have := HK1.out; omega
   case rel => exact ⟨(wrap64 (GN + 1)), dU, H', ⟨by have := HK1.out; omega⟩, iB⟩
  ·go_ret
   exact ⟨by first | rfl | (simp; done) | (simp only [← hji9] <;> (first | rfl | simp)) | (simp [*]; done), iB⟩
  ·go_roundg k1
   case measure => have := HK1.out; omega
   case rel => exact ⟨(wrap64 (GN + 1)), dU, H', ⟨by have := HK1.out; omega⟩, iB⟩
  ·go_ret
   exact ⟨by first | rfl | (simp; done) | (simp [*]; done), iB⟩
  ·go_ret
   exact ⟨by first | rfl | (simp; done) | (simp [*]; done), iB⟩
def hasS (l : List ByteArray) (s : ByteArray) : Bool := l.any fun x => s.toList == x.toList
theorem WG {i n : Nat} (h : i < n) (hn : n ≤ 9223372036854775807) : wrap64 ((i : Int) + 1) = ((i + 1 : Nat) : Int) := by
 unfold wrap64; omega
theorem Cs {α : Type} (d : α) (l : List α) (i : Nat) (h : i < l.length) : rdOf d l (i : Int) = l[i] := by
 unfold rdOf; simp [List.getD_eq_getElem?_getD, h]
theorem Sd (l : List ByteArray) (s : ByteArray) (hl : l.length ≤ 9223372036854775807) : ∀ (d k i : Nat), l.length - i = d → i ≤ l.length → d < k →
  ∃ r, bL.l0 k l s (l.length : Int) (i : Int) = some r ∧ decide (r ≥ 0) = (l.drop i).any fun x => s.toList == x.toList := by
 intro d
 induction d with
 | zero =>
  intro k i hd hi hk
  obtain ⟨k, rfl⟩ : ∃ m, k = m + 1 := ⟨k - 1, by omega⟩
  have : i = l.length := by omega
  subst this
  refine ⟨-1, ?_, by simp⟩
  simp only [bL.l0]
  rw [if_neg (by omega)]
 | succ d ih =>
  intro k i hd hi hk
  obtain ⟨k, rfl⟩ : ∃ m, k = m + 1 := ⟨k - 1, by omega⟩
  have hlt : i < l.length := by omega
  rw [List.drop_eq_getElem_cons hlt]
  simp only [bL.l0, List.any_cons]
  rw [if_pos (by omega), if_pos (by omega), if_pos (by omega), Cs _ _ _ hlt]
  by_cases e : s.toList = l[i].toList
  ·exact ⟨i, by rw [if_pos e], by simp [e]⟩
  ·obtain ⟨r, hr, h⟩ := ih k (i + 1) (by omega) (by omega) (by omega)
   refine ⟨r, ?_, by rw [h]; simp [e]⟩
   rw [if_neg e, WG hlt hl]
   exact hr
theorem IE (l : List ByteArray) (s : ByteArray) (hl : l.length ≤ 9223372036854775807) : bJ.f (l.length + 1) l s = some (hasS l s) := by
 obtain ⟨r, hr, h⟩ := Sd l s hl l.length (l.length + 1) 0 (by omega) (by omega) (by omega)
 unfold bJ.f bL.f
 rw [show bL.l0 (l.length + 1) l s (l.length : Int) 0 = some r from hr]
 simp only [Option.bind_some]
 rw [h]
 rfl
end Go.Proofs.YtaofjgnhapnndaaGreat.Q
