/- Texts that the row needs: words on memory and rows, the contracts of the functions it reaches, and the plain lemmas on what they compute. -/
import Derived.Test.YtaofjgnhapnndaaRows
import Derived.ProofKit
import Derived.Test.YtaofjgnhapnndaaXklad
set_option maxHeartbeats 8000000
set_option maxRecDepth 100000
open Go.Proofs.YtaofjgnhapnndaaFkl
namespace Go.Proofs.Ytaofjgnhapnndaa.Q
open Go.RowKit Go.Proofs.YtaofjgnhapnndaaW.PrintWords Go.Proofs.YtaofjgnhapnndaaW.PrintLast Go.Proofs.YtaofjgnhapnndaaW.PrintMore
set_option linter.unusedVariables false
set_option linter.unusedSimpArgs false
theorem xA : ∀ (w r : List Char), (∀ c ∈ w, c ≠ Char.ofNat 32) → wordsSigns (w ++ Char.ofNat 32 :: r) = w :: wordsSigns r
  | [], r, _ => rfl
  | c :: w, r, h => by
    have ih := xA w r (fun d hd => h d (List.mem_cons_of_mem _ hd))
    have hc : c ≠ Char.ofNat 32 := h c List.mem_cons_self
    rw [List.cons_append, wordsSigns.eq_3 _ _ (fun e => hc e), ih]
theorem kw {a b : Bool} (ha : a = true) (hb : b = true) : (a && b) = true := by rw [ha, hb]; rfl
noncomputable def vM : List Char := List.map Char.ofNat [104, 97, 114, 110, 101, 115, 115, 32, 49, 97, 97, 102, 48, 49, 57, 50, 55, 56, 49, 54, 50, 51, 99, 56, 99, 53, 100, 102, 97, 53, 55, 48, 102, 97, 55, 55, 101, 56, 54, 50, 99, 52, 54, 54, 101, 56, 50, 100, 51, 52, 51, 49, 98, 99, 97, 97, 50, 56, 55, 52, 54, 55, 53, 101, 54, 101, 51, 56, 53, 55, 99, 50, 32, 99, 117, 116, 32, 97, 116, 32, 108, 111, 111, 112, 46, 101, 120, 97, 109, 112, 108, 101, 47, 109, 97, 108, 116, 115, 104, 97, 114, 101, 47, 108, 97, 119, 115, 46, 70, 110, 69, 120, 97, 99, 116, 67, 111, 110, 115, 116, 97, 110, 116, 115, 32, 108, 111, 111, 112, 46, 101, 120, 97, 109, 112, 108, 101, 47, 109, 97, 108, 116, 115, 104, 97, 114, 101, 47, 108, 97, 119, 115, 46, 70, 110, 69, 120, 97, 99, 116, 83, 104, 97, 114, 101, 66, 111, 111, 107, 79, 107, 32, 108, 111, 111, 112, 46, 101, 120, 97, 109, 112, 108, 101, 47, 109, 97, 108, 116, 115, 104, 97, 114, 101, 47, 108, 97, 119, 115, 46, 70, 110, 69, 120, 97, 99, 116, 83, 104, 97, 114, 101, 87, 104, 111, 32, 108, 111, 111, 112, 46, 101, 120, 97, 109, 112, 108, 101, 47, 109, 97, 108, 116, 115, 104, 97, 114, 101, 47, 108, 97, 119, 115, 46, 70, 110, 69, 120, 97, 99, 116, 83, 104, 97, 114, 101, 83, 116, 117, 99, 107, 32, 108, 111, 111, 112, 46, 101, 120, 97, 109, 112, 108, 101, 47, 109, 97, 108, 116, 115, 104, 97, 114, 101, 47, 108, 97, 119, 115, 46, 70, 110, 69, 120, 97, 99, 116, 83, 104, 97, 114, 101, 70, 105, 116, 115, 32, 108, 111, 111, 112, 46, 101, 120, 97, 109, 112, 108, 101, 47, 109, 97, 108, 116, 115, 104, 97, 114, 101, 47, 108, 97, 119, 115, 46, 70, 110, 69, 120, 97, 99, 116, 83, 104, 97, 114, 101, 83, 97, 102, 101, 32, 108, 111, 111, 112, 46, 101, 120, 97, 109, 112, 108, 101, 47, 109, 97, 108, 116, 115, 104, 97, 114, 101, 47, 108, 97, 119, 115, 46, 70, 110, 69, 120, 97, 99, 116, 83, 104, 97, 114, 101, 87, 97, 105, 116, 115, 32, 108, 111, 111, 112, 46, 101, 120, 97, 109, 112, 108, 101, 47, 109, 97, 108, 116, 115, 104, 97, 114, 101, 47, 108, 97, 119, 115, 46, 70, 110, 69, 120, 97, 99, 116, 83, 104, 97, 114, 101, 77, 111, 118, 101, 115, 32, 108, 111, 111, 112, 46, 101, 120, 97, 109, 112, 108, 101, 47, 109, 97, 108, 116, 115, 104, 97, 114, 101, 47, 108, 97, 119, 115, 46, 70, 110, 69, 120, 97, 99, 116, 83, 104, 97, 114, 101, 79, 114, 100, 101, 114, 32, 108, 111, 111, 112, 46, 101, 120, 97, 109, 112, 108, 101, 47, 109, 97, 108, 116, 115, 104, 97, 114, 101, 47, 108, 97, 119, 115, 46, 70, 110, 69, 120, 97, 99, 116, 83, 104, 97, 114, 101, 76, 101, 97, 118, 101, 32, 108, 111, 111, 112, 46, 101, 120, 97, 109, 112, 108, 101, 47, 109, 97, 108, 116, 115, 104, 97, 114, 101, 47, 108, 97, 119, 115, 46, 70, 110, 69, 120, 97, 99, 116, 83, 104, 97, 114, 101, 76, 101, 115, 115, 32, 108, 111, 111, 112, 46, 101, 120, 97, 109, 112, 108, 101, 47, 109, 97, 108, 116, 115, 104, 97, 114, 101, 47, 108, 97, 119, 115, 46, 70, 110, 87, 104, 111, 32, 108, 111, 111, 112, 46, 101, 120, 97, 109, 112, 108, 101, 47, 109, 97, 108, 116, 115, 104, 97, 114, 101, 47, 108, 97, 119, 115, 46, 70, 110, 79, 114, 100, 101, 114, 32, 108, 111, 111, 112, 46, 101, 120, 97, 109, 112, 108, 101, 47, 109, 97, 108, 116, 115, 104, 97, 114, 101, 47, 108, 97, 119, 115, 46, 70, 110, 77, 111, 118, 101, 115, 32, 108, 111, 111, 112, 46, 101, 120, 97, 109, 112, 108, 101, 47, 109, 97, 108, 116, 115, 104, 97, 114, 101, 47, 108, 97, 119, 115, 46, 70, 110, 69, 120, 97, 99, 116, 83, 104, 97, 114, 101, 69, 110, 116, 101, 114, 32, 108, 111, 111, 112, 46, 101, 120, 97, 109, 112, 108, 101, 47, 109, 97, 108, 116, 115, 104, 97, 114, 101, 47, 108, 97, 119, 115, 46, 70, 110, 69, 120, 97, 99, 116, 83, 104, 97, 114, 101, 65, 115, 107, 32, 108, 111, 111, 112, 46, 101, 120, 97, 109, 112, 108, 101, 47, 109, 97, 108, 116, 115, 104, 97, 114, 101, 47, 108, 97, 119, 115, 46, 70, 110, 65, 115, 107, 32, 108, 111, 111, 112, 46, 101, 120, 97, 109, 112, 108, 101, 47, 109, 97, 108, 116, 115, 104, 97, 114, 101, 47, 108, 97, 119, 115, 46, 70, 110, 76, 101, 115, 115]
theorem Sw : Try.prog.initOrder = String.ofList vM := by kernel_rfl
theorem Fw : Try.prog.initOrder.toList = vM := (congrArg String.toList Sw).trans String.toList_ofList
noncomputable def JM : List Char := (vM.drop 8).take 64
theorem head_eq : vM = "harness".toList ++ Char.ofNat 32 :: (JM ++ Char.ofNat 32 :: ("cut".toList ++ Char.ofNat 32 :: vM.drop 77)) := by kernel_rfl
theorem YN : (JM.all fun c => c != Char.ofNat 32) = true := by kernel_rfl
theorem YO : isSumSigns JM = true := by kernel_rfl
theorem Q3 : ∃ R, behindMainWord (wordsSigns Try.prog.initOrder.toList) = "cut".toList :: R := by
 refine ⟨wordsSigns (vM.drop 77), ?_⟩
 have h1 : ∀ c ∈ "harness".toList, c ≠ Char.ofNat 32 := by decide
 have h3 : ∀ c ∈ "cut".toList, c ≠ Char.ofNat 32 := by decide
 have h2 : ∀ c ∈ JM, c ≠ Char.ofNat 32 := fun c hc => by
   have := List.all_eq_true.1 YN c hc
   simpa using this
 have e : wordsSigns Try.prog.initOrder.toList = "harness".toList :: JM :: "cut".toList :: wordsSigns (vM.drop 77) :=
   (congrArg wordsSigns (Fw.trans head_eq)).trans (by rw [xA _ _ h1, xA _ _ h2, xA _ _ h3])
 rw [e]
 generalize wordsSigns (vM.drop 77) = R
 unfold behindMainWord
 exact if_pos (by rw [YO, beq_self_eq_true]; rfl)
theorem Jy : "cut".toList = [Char.ofNat 99, Char.ofNat 117, Char.ofNat 116] := (String.toList_ofList : (String.ofList [Char.ofNat 99, Char.ofNat 117, Char.ofNat 116]).toList = _)
theorem l_gc : "gc".toList = [Char.ofNat 103, Char.ofNat 99] := (String.toList_ofList : (String.ofList [Char.ofNat 103, Char.ofNat 99]).toList = _)
theorem ry : "spec".toList = [Char.ofNat 115, Char.ofNat 112, Char.ofNat 101, Char.ofNat 99] := (String.toList_ofList : (String.ofList [Char.ofNat 115, Char.ofNat 112, Char.ofNat 101, Char.ofNat 99]).toList = _)
theorem WP : "carried".toList = [Char.ofNat 99, Char.ofNat 97, Char.ofNat 114, Char.ofNat 114, Char.ofNat 105, Char.ofNat 101, Char.ofNat 100] := (String.toList_ofList : (String.ofList [Char.ofNat 99, Char.ofNat 97, Char.ofNat 114, Char.ofNat 114, Char.ofNat 105, Char.ofNat 101, Char.ofNat 100]).toList = _)
theorem n_gc : ("cut".toList == "gc".toList) = false := by rw [Jy, l_gc]; decide
theorem Sn : ("cut".toList == "spec".toList) = false := by rw [Jy, ry]; decide
theorem Me : ("cut".toList == "carried".toList) = false := by rw [Jy, WP]; decide
theorem a5P : ("cut".toList == "cut".toList) = true := beq_self_eq_true _
theorem Fs (R : List (List Char)) : (("cut".toList :: R).head? == some "carried".toList) = false := by
 rw [List.head?_cons, Jy, WP]; decide
theorem ul (R : List (List Char)) : (("cut".toList :: R).head? == some "cut".toList) = true := by rw [List.head?_cons]; exact beq_self_eq_true _
theorem WT (R : List (List Char)) : stripLifts liftWords ("cut".toList :: R) = ([], "cut".toList :: R) := by rfl
theorem ZG : Try.prog.laysLater = false := by kernel_rfl
theorem RN : Try.prog.bearsReflect = false := by kernel_rfl
theorem Y6 : Try.prog.doorFits [] = true := by kernel_rfl
theorem Co (P : Program) (R : List (List Char)) (h : behindMainWord (wordsSigns P.initOrder.toList) = "cut".toList :: R) (h1 : P.laysLater = false) (h2 : P.bearsReflect = false) (h3 : P.doorFits [] = true) : P.mayEnter = true := by
 unfold Program.mayEnter
 rw [h]
 simp only [WT, h1, h2, h3, n_gc, Sn, Me, ul]
 rfl
theorem YM (P : Program) (R : List (List Char)) (h : behindMainWord (wordsSigns P.initOrder.toList) = "cut".toList :: R) : P.headLifts = [] := by
 unfold Program.headLifts
 rw [h, WT]
 exact ite_self _
theorem UU (P : Program) (R : List (List Char)) (h : behindMainWord (wordsSigns P.initOrder.toList) = "cut".toList :: R) : P.liftsFinal = false := by
 unfold Program.liftsFinal
 rw [YM P R h, h]
 simp only [Fs]
 rfl
theorem Yj (P : Program) (R : List (List Char)) (h : behindMainWord (wordsSigns P.initOrder.toList) = "cut".toList :: R) : P.make = some .cut := by
 unfold Program.make
 rw [h]
 simp only [n_gc, Sn, a5P]
 rfl
theorem ZI : Try.prog.mayEnter = true := by
 obtain ⟨R, h⟩ := Q3
 exact Co _ R h ZG RN Y6
theorem UT : Try.prog.liftsFinal = false := by
 obtain ⟨R, h⟩ := Q3
 exact UU _ R h
theorem Sm : Try.prog.make = some .cut := by
 obtain ⟨R, h⟩ := Q3
 exact Yj _ R h
def bI.l0 : Nat → List ByteArray → ByteArray → Int → Int → Option (Int)
 | 0, _, _, _, _ => none
 | k + 1, b, c, d, a => if a < d then (if 0 ≤ a then (if a < (b.length : Int) then (if c.toList = (rdOf ByteArray.empty b a).toList then (some a) else (bI.l0 k b c d (wrap64 (a + 1)))) else (none)) else (none)) else (some (-1))
def bI.f (k : Nat) (l0 : List ByteArray) (a1 : ByteArray) : Option (Int) := bI.l0 k l0 a1 (l0.length : Int) 0
theorem bI.U5 : ∀ k, (∀ y0 y1 y2 y3, LeO (bI.l0 k y0 y1 y2 y3) (bI.l0 (k + 1) y0 y1 y2 y3))
 | 0 => fun _ _ _ _ r h => by simp [bI.l0] at h
 | k + 1 => by
  have ih0 := bI.U5 k
  ·intro y0 y1 y2 y3
   unfold bI.l0
   repeat' first
   | (with_reducible exact ih0 _ _ _ _)
   | (with_reducible exact LeO.refl _)
   | (with_reducible exact LeO.none _)
   | (with_reducible refine LeO.ite ?_ ?_)
   | (with_reducible refine LeO.bind ?_ (fun _ => ?_))
   | exact ih0 _ _ _ _
   | exact LeO.none _
   | refine LeO.ite ?_ ?_
   | refine LeO.bind ?_ (fun _ => ?_)
theorem bI.mono : ∀ a0 a1 k, LeO (bI.f k a0 a1) (bI.f (k + 1) a0 a1) := by
 intro a0 a1 k
 have ih0 := bI.U5 k
 unfold bI.f
 repeat' first
   | (with_reducible exact ih0 _ _ _ _)
   | (with_reducible exact LeO.refl _)
   | (with_reducible exact LeO.none _)
   | (with_reducible refine LeO.ite ?_ ?_)
   | (with_reducible refine LeO.bind ?_ (fun _ => ?_))
   | exact ih0 _ _ _ _
   | exact LeO.none _
   | refine LeO.ite ?_ ?_
   | refine LeO.bind ?_ (fun _ => ?_)
theorem bI.calls (k : Nat) (A0 : Option Addr) (c0 : Nat) (l0 : List ByteArray) (a1 : ByteArray) (r : Int) (w : World) (sJ : Kd.C Kd.string w A0 l0.length l0) (yR : l0.length ≤ c0) (h : bI.f k l0 a1 = some r) :
  Calls Try.prog 116 #[.slice A0 l0.length c0, .string a1] w fun e w' => e = .returned (.int .i64 r) ∧ kY w w' := by
 obtain ⟨tO, QP⟩ := mZ2 sJ yR
 clear sJ yR
 unfold bI.f at h
 have H := h
 clear h
 have H' := am H
 repeat clear H
 go_enter Try.func116, Try.ntmps116
 go_wp2
 go_loopg [8] k (fun kq v8 w' => ∃ (IW : Int), v8 = .int .i64 IW ∧ aC (bI.l0 kq l0 a1 (l0.length : Int) IW = some r) ∧ aC (kq ≤ k) ∧ kY w w')
 case atStart => exact ⟨(0), dM, H', ⟨Nat.le_refl _⟩, gR⟩
 clear H'
 obtain ⟨IW, rfl, HA, HK1, ⟨m1, rfl⟩⟩ := hrel
 cases gk with
 | zero => exact absurd HA.out (by simp [bI.l0])
 | succ k1 =>
  have H := HA.out
  clear HA
  simp only [bI.l0] at H
  refine ic H ?_ ?_ <;> clear H <;> intro IM H
  ·obtain ⟨yF, H⟩ := cN H
   obtain ⟨IP, H⟩ := cN H
   refine iq H ?_ ?_ <;> clear H <;> intro c6 RQ Bi H
   ·obtain rfl := Option.some.inj H
    repeat clear H
    obtain ⟨kK, pN, lH, zO, zR⟩ := aS tO b0 IW
    cases pN
    go_wp2
    go_ret
    exact ⟨by first | rfl | (simp; done) | (simp [*]; done), gR⟩
   ·have H' := am H
    repeat clear H
    obtain ⟨kK, pN, lH, zO, zR⟩ := aS tO b0 IW
    cases pN
    go_wp2
    go_roundg k1
    case measure => have := HK1.out; omega
    case rel => exact ⟨(wrap64 (IW + 1)), dM, H', ⟨by have := HK1.out; omega⟩, gR⟩
  ·obtain rfl := Option.some.inj H
   repeat clear H
   go_wp2
   go_ret
   exact ⟨by first | rfl | (simp; done) | (simp [*]; done), gR⟩
def bG.f (k : Nat) (l0 : List ByteArray) (a1 : ByteArray) : Option (Bool) := (bI.f k l0 a1).bind fun a => (some (decide (a ≥ 0)))
theorem bG.mono : ∀ a0 a1 k, LeO (bG.f k a0 a1) (bG.f (k + 1) a0 a1) := by
 intro a0 a1 k
 unfold bG.f
 repeat' first
   | (with_reducible exact bI.mono _ _ _)
   | (with_reducible exact LeO.refl _)
   | (with_reducible exact LeO.none _)
   | (with_reducible refine LeO.ite ?_ ?_)
   | (with_reducible refine LeO.bind ?_ (fun _ => ?_))
   | exact bI.mono _ _ _
   | exact LeO.none _
   | refine LeO.ite ?_ ?_
   | refine LeO.bind ?_ (fun _ => ?_)
theorem bG.calls (k : Nat) (A0 : Option Addr) (c0 : Nat) (l0 : List ByteArray) (a1 : ByteArray) (r : Bool) (w : World) (sJ : Kd.C Kd.string w A0 l0.length l0) (yR : l0.length ≤ c0) (h : bG.f k l0 a1 = some r) :
  Calls Try.prog 81 #[.slice A0 l0.length c0, .string a1] w fun e w' => e = .returned (.bool r) ∧ kY w w' := by
 obtain ⟨tO, QP⟩ := mZ2 sJ yR
 clear sJ yR
 unfold bG.f at h
 have H := h
 clear h
 obtain ⟨l5, A3, H⟩ := bd H
 obtain rfl := Option.some.inj H
 repeat clear H
 go_enter Try.func81, Try.ntmps81
 go_wp2_with (first | ((with_reducible refine gC 116 ?_); refine cQ (some 7) Try.func116 (bI.calls k _ _ l0 a1 l5 _ (pC tO.1) QP.1 A3.out) ?_; rintro w' ⟨nd, rfl⟩))
 go_ret
 exact ⟨by first | rfl | (simp; done) | (simp [*]; done), gR⟩
def gY.l0 : Nat → List ByteArray → List ByteArray → List ByteArray → Int → Int → Option (Bool)
 | 0, _, _, _, _, _ => none
 | k + 1, c, d, b, e, a => if a < e then (if 0 ≤ a then (if a < (b.length : Int) then ((bG.f k d (rdOf ByteArray.empty b a)).bind fun g => (if g = true then (if a > 0 then (if 0 ≤ (wrap64 (a - 1)) then (if (wrap64 (a - 1)) < (c.length : Int) then (if ((Op.bytesLess ((rdOf ByteArray.empty c (wrap64 (a - 1))).toList) ((rdOf ByteArray.empty b a).toList)) = true) then (gY.l0 k c d b e (wrap64 (a + 1))) else (some false)) else (none)) else (none)) else (gY.l0 k c d b e (wrap64 (a + 1)))) else (some false))) else (none)) else (none)) else (some true)
def gY.f (k : Nat) (l0 : List ByteArray) (l1 : List ByteArray) : Option (Bool) := gY.l0 k l0 l1 l0 (l0.length : Int) 0
theorem gY.calls (k : Nat) (A0 : Option Addr) (c0 : Nat) (l0 : List ByteArray) (A1 : Option Addr) (c1 : Nat) (l1 : List ByteArray) (r : Bool) (w : World) (sJ : Kd.C Kd.string w A0 l0.length l0) (yR : l0.length ≤ c0) (FG : Kd.C Kd.string w A1 l1.length l1) (FF : l1.length ≤ c1) (h : gY.f k l0 l1 = some r) :
  Calls Try.prog 74 #[.slice A0 l0.length c0, .slice A1 l1.length c1] w fun e w' => e = .returned (.bool r) ∧ kY w w' := by
 obtain ⟨tO, QP⟩ := mZ2 sJ yR
 obtain ⟨IL, LA⟩ := mZ2 FG FF
 clear sJ yR FG FF
 unfold gY.f at h
 have H := h
 clear h
 have H' := am H
 repeat clear H
 go_enter Try.func74, Try.ntmps74
 go_wp2
 go_loopg [9] k (fun kq v9 w' => ∃ (ID : Int), v9 = .int .i64 ID ∧ aC (gY.l0 kq l0 l1 l0 (l0.length : Int) ID = some r) ∧ aC (kq ≤ k) ∧ kY w w')
 case atStart => exact ⟨(0), dM, H', ⟨Nat.le_refl _⟩, gR⟩
 clear H'
 try clear c1
 obtain ⟨ID, rfl, HA, HK1, ⟨m1, rfl⟩⟩ := hrel
 cases gk with
 | zero => exact absurd HA.out (by simp [gY.l0])
 | succ k1 =>
  have H := HA.out
  clear HA
  simp only [gY.l0] at H
  refine ic H ?_ ?_ <;> clear H <;> intro IM H
  obtain ⟨yF, H⟩ := cN H
  obtain ⟨IP, H⟩ := cN H
  obtain ⟨lD, A6, H⟩ := bd H
  refine tC H ?_ ?_ <;> clear H <;> intro c7 H <;> subst c7
  by_cases c8 : ID > 0
  rw [if_pos c8] at H
  have LB : decide (0 < ID) = true := decide_eq_true c8
  clear c8
  obtain ⟨ji9, hji9⟩ : ∃ j_ : Int, (wrap64 (ID - 1)) = j_ := ⟨_, rfl⟩
  replace H : (if 0 ≤ (ji9) then (if (ji9) < (l0.length : Int) then (if ((Op.bytesLess ((rdOf ByteArray.empty l0 (ji9)).toList) ((rdOf ByteArray.empty l0 ID).toList)) = true) then (gY.l0 k1 l0 l1 l0 (l0.length : Int) (wrap64 (ID + 1))) else (some false)) else (none)) else (none)) = some r := by first | (rw [hji9] at H; exact H) | (simp only [hji9] at H ⊢; exact H)
  (try rw [hji9] at A6)
  have hji9w : (IntKind.i64.wrap (ID - 1)) = ji9 := (q8 _).trans hji9
  obtain ⟨NL, H⟩ := cN H
  obtain ⟨NM, H⟩ := cN H
  refine tC H ?_ ?_ <;> clear H <;> intro QX H
  have H' := am H
  repeat clear H
  obtain ⟨kK, pN, lH, zO, zR⟩ := aS tO b0 ID
  cases pN
  have M0_ := trivial
  rotate_left
  obtain rfl := Option.some.inj H
  repeat clear H
  obtain ⟨kK, pN, lH, zO, zR⟩ := aS tO b0 ID
  cases pN
  have M0_ := trivial
  rotate_left
  rw [if_neg c8] at H
  have LB : decide (0 < ID) = false := decide_eq_false c8
  clear c8
  have H' := am H
  repeat clear H
  obtain ⟨kK, pN, lH, zO, zR⟩ := aS tO b0 ID
  cases pN
  have M1_ := trivial
  rotate_left
  obtain rfl := Option.some.inj H
  repeat clear H
  obtain ⟨kK, pN, lH, zO, zR⟩ := aS tO b0 ID
  cases pN
  have M2_ := trivial
  rotate_left
  obtain rfl := Option.some.inj H
  repeat clear H
  rotate_left
  all_goals
   go_wp2_with (first | ((with_reducible refine gC 81 ?_); revert M0_; intro M0_; refine cQ (some 16) Try.func81 (bG.calls k1 _ _ l1 (rdOf ByteArray.empty l0 ID) true _ (pC IL.1) LA.1 A6.out) ?_; rintro w' ⟨nd, rfl⟩; obtain ⟨pG, zL, rX, E0, E6⟩ := aS tO b0 (ji9); obtain rfl : kK = pG := (by injection zL)) | ((with_reducible refine gC 81 ?_); revert M1_; intro M1_; refine cQ (some 16) Try.func81 (bG.calls k1 _ _ l1 (rdOf ByteArray.empty l0 ID) true _ (pC IL.1) LA.1 A6.out) ?_; rintro w' ⟨nd, rfl⟩) | ((with_reducible refine gC 81 ?_); revert M2_; intro M2_; refine cQ (some 16) Try.func81 (bG.calls k1 _ _ l1 (rdOf ByteArray.empty l0 ID) false _ (pC IL.1) LA.1 A6.out) ?_; rintro w' ⟨nd, rfl⟩))
  ·go_roundg k1
   case measure => have := HK1.out; omega
   case rel => exact ⟨(wrap64 (ID + 1)), dM, H', ⟨by have := HK1.out; omega⟩, gR⟩
  ·go_ret
   exact ⟨by first | rfl | (simp; done) | (simp only [← hji9] <;> (first | rfl | simp)) | (simp [*]; done), gR⟩
  ·go_roundg k1
   case measure => have := HK1.out; omega
   case rel => exact ⟨(wrap64 (ID + 1)), dM, H', ⟨by have := HK1.out; omega⟩, gR⟩
  ·go_ret
   exact ⟨by first | rfl | (simp; done) | (simp [*]; done), gR⟩
  ·go_ret
   exact ⟨by first | rfl | (simp; done) | (simp [*]; done), gR⟩
def hasS (l : List ByteArray) (s : ByteArray) : Bool := l.any fun x => s.toList == x.toList
theorem WX {i n : Nat} (h : i < n) (hn : n ≤ 9223372036854775807) : wrap64 ((i : Int) + 1) = ((i + 1 : Nat) : Int) := by
 unfold wrap64; omega
theorem Cv {α : Type} (d : α) (l : List α) (i : Nat) (h : i < l.length) : rdOf d l (i : Int) = l[i] := by
 unfold rdOf; simp [List.getD_eq_getElem?_getD, h]
theorem Sc (l : List ByteArray) (s : ByteArray) (hl : l.length ≤ 9223372036854775807) : ∀ (d k i : Nat), l.length - i = d → i ≤ l.length → d < k →
  ∃ r, bI.l0 k l s (l.length : Int) (i : Int) = some r ∧ decide (r ≥ 0) = (l.drop i).any fun x => s.toList == x.toList := by
 intro d
 induction d with
 | zero =>
  intro k i hd hi hk
  obtain ⟨k, rfl⟩ : ∃ m, k = m + 1 := ⟨k - 1, by omega⟩
  have : i = l.length := by omega
  subst this
  refine ⟨-1, ?_, by simp⟩
  simp only [bI.l0]
  rw [if_neg (by omega)]
 | succ d ih =>
  intro k i hd hi hk
  obtain ⟨k, rfl⟩ : ∃ m, k = m + 1 := ⟨k - 1, by omega⟩
  have hlt : i < l.length := by omega
  rw [List.drop_eq_getElem_cons hlt]
  simp only [bI.l0, List.any_cons]
  rw [if_pos (by omega), if_pos (by omega), if_pos (by omega), Cv _ _ _ hlt]
  by_cases e : s.toList = l[i].toList
  ·exact ⟨i, by rw [if_pos e], by simp [e]⟩
  ·obtain ⟨r, hr, h⟩ := ih k (i + 1) (by omega) (by omega) (by omega)
   refine ⟨r, ?_, by rw [h]; simp [e]⟩
   rw [if_neg e, WX hlt hl]
   exact hr
theorem JJ (l : List ByteArray) (s : ByteArray) (hl : l.length ≤ 9223372036854775807) : bG.f (l.length + 1) l s = some (hasS l s) := by
 obtain ⟨r, hr, h⟩ := Sc l s hl l.length (l.length + 1) 0 (by omega) (by omega) (by omega)
 unfold bG.f bI.f
 rw [show bI.l0 (l.length + 1) l s (l.length : Int) 0 = some r from hr]
 simp only [Option.bind_some]
 rw [h]
 rfl
end Go.Proofs.Ytaofjgnhapnndaa.Q
