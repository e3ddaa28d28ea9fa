/- Texts that the row needs: words on memory and rows, the contracts of the functions it reaches, and the plain lemmas on what they compute. -/
import Derived.Below
import Derived.Deep.Draws
import Derived.Deep.AppendLies
import Derived.Maps.AppendAt
import Derived.OwnWalk
import Derived.Laws.BytesArg
import Derived.Laws.MakeOwn
import Derived.Laws.OwnMore
import Derived.Deep.OwnRows
import Derived.Tactics
import Derived.Lib.ConvBytes
import Derived.Laws.Slices
import Derived.WalkKit
import Derived.KernelRfl
import Derived.RowKit3
import Derived.Deep.LoopGhost
import Derived.Deep.QuietTactic
import Derived.BigQuiet
import Derived.WideLaws
import Derived.Deep.DeepCutAuto
import Derived.Deep.CutBlock
import Derived.Deep.RegionHeld3
import Derived.Laws.Rows
import Derived.Lib.AppendStr
import Derived.ArgAppend
import Derived.Laws.IdiomCopy
import Derived.RowKit
import Derived.OrdersHeld
import Derived.Laws.BitsLemmas
import Derived.Laws.StructEq
import Derived.Test.YtaofjgnhapnndaaProg
import Derived.WalkLawsBesides
import Derived.Test.YtaofjgnhapnndaaRows
import Derived.ProofKit
import Derived.Test.YtaofjgnhapnndaaXGaa
import Derived.Test.YtaofjgnhapnndaaXGab
import Derived.Test.YtaofjgnhapnndaaXGac
import Derived.Test.YtaofjgnhapnndaaXGad
import Derived.Test.YtaofjgnhapnndaaXGae
open Go.Proofs.YtaofjgnhapnndaaFG
namespace Go.Proofs.Ytaofjgnhapnndaa.Q
open Go.RowKit Go.Proofs.YtaofjgnhapnndaaW.PrintWords Go.Proofs.YtaofjgnhapnndaaW.PrintLast Go.Proofs.YtaofjgnhapnndaaW.PrintMore
set_option linter.unusedVariables false
set_option linter.unusedSimpArgs false
def spec_l1NamesOk.l0 : Nat → List ByteArray → List ByteArray → Int → Option (Bool)
 | 0, _, _, _ => none
 | k + 1, x0, x1, x5 => if x5 < (x0.length : Int) then (if 0 ≤ x5 then ((spec_l1Has.f k x1 (rdOf ByteArray.empty x0 x5)).bind fun t102 => (if t102 = true then (if x5 > 0 then (if 0 ≤ (wrap64 (x5 - 1)) then (if (wrap64 (x5 - 1)) < (x0.length : Int) then (if ((Op.bytesLess ((rdOf ByteArray.empty x0 (wrap64 (x5 - 1))).toList) ((rdOf ByteArray.empty x0 x5).toList)) = true) then (spec_l1NamesOk.l0 k x0 x1 (wrap64 (x5 + 1))) else (some false)) else (none)) else (none)) else (spec_l1NamesOk.l0 k x0 x1 (wrap64 (x5 + 1)))) else (some false))) else (none)) else (some true)
def spec_l1NamesOk.f (k : Nat) (l0 : List ByteArray) (l1 : List ByteArray) : Option (Bool) := spec_l1NamesOk.l0 k l0 l1 0
set_option maxHeartbeats 8000000 in
set_option maxRecDepth 100000 in
theorem spec_l1NamesOk.calls (k : Nat) (A0 : Option Addr) (c0 : Nat) (l0 : List ByteArray) (A1 : Option Addr) (c1 : Nat) (l1 : List ByteArray) (r : Bool) (w : World) (hr0 : Kd.C Kd.string w A0 l0.length l0) (hc0 : l0.length ≤ c0) (hr1 : Kd.C Kd.string w A1 l1.length l1) (hc1 : l1.length ≤ c1) (h : spec_l1NamesOk.f k l0 l1 = some r) :
  Calls Try.prog 71 #[.slice A0 l0.length c0, .slice A1 l1.length c1] w fun e w' => e = .returned (.bool r) ∧ Drawn0 w w' := by
 have HR0 := Aside0.mk hr0
 have HC0 := Aside0.mk hc0
 clear hr0 hc0
 have HR1 := Aside0.mk hr1
 have HC1 := Aside0.mk hc1
 clear hr1 hc1
 have H : (spec_l1NamesOk.l0 k l0 l1 0) = some r := h
 clear h
 have H' := Aside0.mk H
 clear H
 go_enter Try.func71, Try.ntmps71
 go_wp2
 repeat (go_quiet (fail); try go_wp2)
 go_loopg [5] k (fun kq v5 w' => ∃ (x5_1 : Int), v5 = .int .i64 x5_1 ∧ Aside0 (spec_l1NamesOk.l0 kq l0 l1 x5_1 = some r) ∧ Aside0 (kq ≤ k) ∧ Drawn0 w w')
 case atStart => exact ⟨(0), (pY51), H', ⟨Nat.le_refl _⟩, pY49⟩
 case round =>
  clear H'
  try clear c1
  try clear p2
  obtain ⟨x5_1, rfl, HA, HK1, ⟨m1, rfl⟩⟩ := hrel
  cases gk with
  | zero => exact absurd HA.out (by simp [spec_l1NamesOk.l0])
  | succ k1 =>
   have H := HA.out
   clear HA
   simp only [spec_l1NamesOk.l0] at H
   by_cases c3 : x5_1 < (l0.length : Int)
   ·rw [if_pos c3] at H
    have c3b0 : decide (x5_1 < (l0.length : Int)) = true := decide_eq_true c3
    clear c3
    by_cases c4 : 0 ≤ x5_1
    ·rw [if_pos c4] at H
     have c4b0 : decide (0 ≤ x5_1) = true := decide_eq_true c4
     clear c4
     replace H := Option.bind_eq_some_iff.mp H
     obtain ⟨t102, A50, H⟩ := H
     replace H : (if t102 = true then (if x5_1 > 0 then (if 0 ≤ (wrap64 (x5_1 - 1)) then (if (wrap64 (x5_1 - 1)) < (l0.length : Int) then (if ((Op.bytesLess ((rdOf ByteArray.empty l0 (wrap64 (x5_1 - 1))).toList) ((rdOf ByteArray.empty l0 x5_1).toList)) = true) then (spec_l1NamesOk.l0 k1 l0 l1 (wrap64 (x5_1 + 1))) else (some false)) else (none)) else (none)) else (spec_l1NamesOk.l0 k1 l0 l1 (wrap64 (x5_1 + 1)))) else (some false)) = some r := H
     have A5 := Aside0.mk A50
     clear A50
     by_cases c6 : t102 = true
     ·subst c6
      have H1 : (if x5_1 > 0 then (if 0 ≤ (wrap64 (x5_1 - 1)) then (if (wrap64 (x5_1 - 1)) < (l0.length : Int) then (if ((Op.bytesLess ((rdOf ByteArray.empty l0 (wrap64 (x5_1 - 1))).toList) ((rdOf ByteArray.empty l0 x5_1).toList)) = true) then (spec_l1NamesOk.l0 k1 l0 l1 (wrap64 (x5_1 + 1))) else (some false)) else (none)) else (none)) else (spec_l1NamesOk.l0 k1 l0 l1 (wrap64 (x5_1 + 1)))) = some r := by rw [if_pos rfl] at H; exact H
      clear H
      have H := H1
      clear H1
      by_cases c7 : x5_1 > 0
      ·rw [if_pos c7] at H
       have c7b0 : decide (0 < x5_1) = true := decide_eq_true c7
       clear c7
       obtain ⟨ji8, hji8⟩ : ∃ j_ : Int, (wrap64 (x5_1 - 1)) = j_ := ⟨_, rfl⟩
       replace H : (if 0 ≤ (ji8) then (if (ji8) < (l0.length : Int) then (if ((Op.bytesLess ((rdOf ByteArray.empty l0 (ji8)).toList) ((rdOf ByteArray.empty l0 x5_1).toList)) = true) then (spec_l1NamesOk.l0 k1 l0 l1 (wrap64 (x5_1 + 1))) else (some false)) else (none)) else (none)) = some r := by first | (rw [hji8] at H; exact H) | (simp only [hji8] at H ⊢; exact H)
       (try rw [hji8] at A5)
       have hji8w : (IntKind.i64.wrap (x5_1 - 1)) = ji8 := (i64_w _).trans hji8
       by_cases c9 : 0 ≤ (ji8)
       ·rw [if_pos c9] at H
        have c9b0 : decide (0 ≤ (ji8)) = true := decide_eq_true c9
        clear c9
        by_cases c10 : (ji8) < (l0.length : Int)
        ·rw [if_pos c10] at H
         have c10b0 : decide ((ji8) < (l0.length : Int)) = true := decide_eq_true c10
         clear c10
         by_cases c11 : ((Op.bytesLess ((rdOf ByteArray.empty l0 (ji8)).toList) ((rdOf ByteArray.empty l0 x5_1).toList)) = true)
         ·rw [if_pos c11] at H
          have c11b0 : (Op.bytesLess ((rdOf ByteArray.empty l0 (ji8)).toList) ((rdOf ByteArray.empty l0 x5_1).toList)) = true := c11
          clear c11
          have H' := Aside0.mk H
          clear H
          have p101 : 0 ≤ (x5_1 : Int) := of_decide_eq_true (pY50)
          have q101 : x5_1 < (l0.length : Int) := of_decide_eq_true (pY50)
          obtain ⟨ad101, e101, hx101_0⟩ := Kd.at_string HR0.1 x5_1 p101 q101
          cases e101
          replace p101 := eq_true p101
          replace q101 := eq_true q101
          go_wp2_with (first | (go_at_call 80; (with_reducible refine (spec_l1Has.calls k1 _ _ l1 (rdOf ByteArray.empty l0 x5_1) true _ ?side1 ?side2 A5.out).mono ?_); (case side1 => exact pC HR1.1); (case side2 => exact HC1.1); rintro e w' ⟨rfl, ⟨nd, rfl⟩⟩; (try first | exact ⟨rfl, _, World.drewN_drewN _ _ _⟩ | exact ⟨rfl, _, Eq.trans (World.drewN_drewN _ _ _) (congrArg (World.drewN _) (Nat.add_assoc _ _ _))⟩); have p103 : 0 ≤ ((ji8) : Int) := of_decide_eq_true (pY50); have q103 : (ji8) < (l0.length : Int) := of_decide_eq_true (pY50); obtain ⟨ad103, e103, hx103_0⟩ := Kd.at_string HR0.1 (ji8) p103 q103; obtain rfl : ad101 = ad103 := (by injection e103); replace p103 := eq_true p103; replace q103 := eq_true q103; have p104 : 0 ≤ (x5_1 : Int) := of_decide_eq_true (pY50); have q104 : x5_1 < (l0.length : Int) := of_decide_eq_true (pY50); obtain ⟨ad104, e104, hx104_0⟩ := Kd.at_string HR0.1 x5_1 p104 q104; obtain rfl : ad101 = ad104 := (by injection e104); replace p104 := eq_true p104; replace q104 := eq_true q104))
          repeat (go_quiet (first | (go_at_call 80; (with_reducible refine (spec_l1Has.calls k1 _ _ l1 (rdOf ByteArray.empty l0 x5_1) true _ ?side1 ?side2 A5.out).mono ?_); (case side1 => exact pC HR1.1); (case side2 => exact HC1.1); rintro e w' ⟨rfl, ⟨nd, rfl⟩⟩; (try first | exact ⟨rfl, _, World.drewN_drewN _ _ _⟩ | exact ⟨rfl, _, Eq.trans (World.drewN_drewN _ _ _) (congrArg (World.drewN _) (Nat.add_assoc _ _ _))⟩); have p103 : 0 ≤ ((ji8) : Int) := of_decide_eq_true (pY50); have q103 : (ji8) < (l0.length : Int) := of_decide_eq_true (pY50); obtain ⟨ad103, e103, hx103_0⟩ := Kd.at_string HR0.1 (ji8) p103 q103; obtain rfl : ad101 = ad103 := (by injection e103); replace p103 := eq_true p103; replace q103 := eq_true q103; have p104 : 0 ≤ (x5_1 : Int) := of_decide_eq_true (pY50); have q104 : x5_1 < (l0.length : Int) := of_decide_eq_true (pY50); obtain ⟨ad104, e104, hx104_0⟩ := Kd.at_string HR0.1 x5_1 p104 q104; obtain rfl : ad101 = ad104 := (by injection e104); replace p104 := eq_true p104; replace q104 := eq_true q104)); try go_wp2_with (first | (go_at_call 80; (with_reducible refine (spec_l1Has.calls k1 _ _ l1 (rdOf ByteArray.empty l0 x5_1) true _ ?side1 ?side2 A5.out).mono ?_); (case side1 => exact pC HR1.1); (case side2 => exact HC1.1); rintro e w' ⟨rfl, ⟨nd, rfl⟩⟩; (try first | exact ⟨rfl, _, World.drewN_drewN _ _ _⟩ | exact ⟨rfl, _, Eq.trans (World.drewN_drewN _ _ _) (congrArg (World.drewN _) (Nat.add_assoc _ _ _))⟩); have p103 : 0 ≤ ((ji8) : Int) := of_decide_eq_true (pY50); have q103 : (ji8) < (l0.length : Int) := of_decide_eq_true (pY50); obtain ⟨ad103, e103, hx103_0⟩ := Kd.at_string HR0.1 (ji8) p103 q103; obtain rfl : ad101 = ad103 := (by injection e103); replace p103 := eq_true p103; replace q103 := eq_true q103; have p104 : 0 ≤ (x5_1 : Int) := of_decide_eq_true (pY50); have q104 : x5_1 < (l0.length : Int) := of_decide_eq_true (pY50); obtain ⟨ad104, e104, hx104_0⟩ := Kd.at_string HR0.1 x5_1 p104 q104; obtain rfl : ad101 = ad104 := (by injection e104); replace p104 := eq_true p104; replace q104 := eq_true q104)))
          go_roundg k1
          case measure => have := HK1.out; omega
          case rel => exact ⟨(wrap64 (x5_1 + 1)), (pY51), H', ⟨by have := HK1.out; omega⟩, pY49⟩
         ·rw [if_neg c11] at H
          have c11b0 : (Op.bytesLess ((rdOf ByteArray.empty l0 (ji8)).toList) ((rdOf ByteArray.empty l0 x5_1).toList)) = false := by simpa using c11
          clear c11
          obtain rfl := Option.some.inj H
          have p101 : 0 ≤ (x5_1 : Int) := of_decide_eq_true (pY50)
          have q101 : x5_1 < (l0.length : Int) := of_decide_eq_true (pY50)
          obtain ⟨ad101, e101, hx101_0⟩ := Kd.at_string HR0.1 x5_1 p101 q101
          cases e101
          replace p101 := eq_true p101
          replace q101 := eq_true q101
          go_wp2_with (first | (go_at_call 80; (with_reducible refine (spec_l1Has.calls k1 _ _ l1 (rdOf ByteArray.empty l0 x5_1) true _ ?side1 ?side2 A5.out).mono ?_); (case side1 => exact pC HR1.1); (case side2 => exact HC1.1); rintro e w' ⟨rfl, ⟨nd, rfl⟩⟩; (try first | exact ⟨rfl, _, World.drewN_drewN _ _ _⟩ | exact ⟨rfl, _, Eq.trans (World.drewN_drewN _ _ _) (congrArg (World.drewN _) (Nat.add_assoc _ _ _))⟩); have p103 : 0 ≤ ((ji8) : Int) := of_decide_eq_true (pY50); have q103 : (ji8) < (l0.length : Int) := of_decide_eq_true (pY50); obtain ⟨ad103, e103, hx103_0⟩ := Kd.at_string HR0.1 (ji8) p103 q103; obtain rfl : ad101 = ad103 := (by injection e103); replace p103 := eq_true p103; replace q103 := eq_true q103; have p104 : 0 ≤ (x5_1 : Int) := of_decide_eq_true (pY50); have q104 : x5_1 < (l0.length : Int) := of_decide_eq_true (pY50); obtain ⟨ad104, e104, hx104_0⟩ := Kd.at_string HR0.1 x5_1 p104 q104; obtain rfl : ad101 = ad104 := (by injection e104); replace p104 := eq_true p104; replace q104 := eq_true q104))
          repeat (go_quiet (first | (go_at_call 80; (with_reducible refine (spec_l1Has.calls k1 _ _ l1 (rdOf ByteArray.empty l0 x5_1) true _ ?side1 ?side2 A5.out).mono ?_); (case side1 => exact pC HR1.1); (case side2 => exact HC1.1); rintro e w' ⟨rfl, ⟨nd, rfl⟩⟩; (try first | exact ⟨rfl, _, World.drewN_drewN _ _ _⟩ | exact ⟨rfl, _, Eq.trans (World.drewN_drewN _ _ _) (congrArg (World.drewN _) (Nat.add_assoc _ _ _))⟩); have p103 : 0 ≤ ((ji8) : Int) := of_decide_eq_true (pY50); have q103 : (ji8) < (l0.length : Int) := of_decide_eq_true (pY50); obtain ⟨ad103, e103, hx103_0⟩ := Kd.at_string HR0.1 (ji8) p103 q103; obtain rfl : ad101 = ad103 := (by injection e103); replace p103 := eq_true p103; replace q103 := eq_true q103; have p104 : 0 ≤ (x5_1 : Int) := of_decide_eq_true (pY50); have q104 : x5_1 < (l0.length : Int) := of_decide_eq_true (pY50); obtain ⟨ad104, e104, hx104_0⟩ := Kd.at_string HR0.1 x5_1 p104 q104; obtain rfl : ad101 = ad104 := (by injection e104); replace p104 := eq_true p104; replace q104 := eq_true q104)); try go_wp2_with (first | (go_at_call 80; (with_reducible refine (spec_l1Has.calls k1 _ _ l1 (rdOf ByteArray.empty l0 x5_1) true _ ?side1 ?side2 A5.out).mono ?_); (case side1 => exact pC HR1.1); (case side2 => exact HC1.1); rintro e w' ⟨rfl, ⟨nd, rfl⟩⟩; (try first | exact ⟨rfl, _, World.drewN_drewN _ _ _⟩ | exact ⟨rfl, _, Eq.trans (World.drewN_drewN _ _ _) (congrArg (World.drewN _) (Nat.add_assoc _ _ _))⟩); have p103 : 0 ≤ ((ji8) : Int) := of_decide_eq_true (pY50); have q103 : (ji8) < (l0.length : Int) := of_decide_eq_true (pY50); obtain ⟨ad103, e103, hx103_0⟩ := Kd.at_string HR0.1 (ji8) p103 q103; obtain rfl : ad101 = ad103 := (by injection e103); replace p103 := eq_true p103; replace q103 := eq_true q103; have p104 : 0 ≤ (x5_1 : Int) := of_decide_eq_true (pY50); have q104 : x5_1 < (l0.length : Int) := of_decide_eq_true (pY50); obtain ⟨ad104, e104, hx104_0⟩ := Kd.at_string HR0.1 x5_1 p104 q104; obtain rfl : ad101 = ad104 := (by injection e104); replace p104 := eq_true p104; replace q104 := eq_true q104)))
          go_ret
          exact ⟨by first | rfl | (simp; done) | (simp only [← hji8] <;> (first | rfl | simp)) | (simp [*]; done), pY49⟩
        ·rw [if_neg c10] at H
         exact absurd H (by simp)
       ·rw [if_neg c9] at H
        exact absurd H (by simp)
      ·rw [if_neg c7] at H
       have c7b0 : decide (0 < x5_1) = false := decide_eq_false c7
       clear c7
       have H' := Aside0.mk H
       clear H
       have p101 : 0 ≤ (x5_1 : Int) := of_decide_eq_true (pY50)
       have q101 : x5_1 < (l0.length : Int) := of_decide_eq_true (pY50)
       obtain ⟨ad101, e101, hx101_0⟩ := Kd.at_string HR0.1 x5_1 p101 q101
       cases e101
       replace p101 := eq_true p101
       replace q101 := eq_true q101
       go_wp2_with (first | (go_at_call 80; (with_reducible refine (spec_l1Has.calls k1 _ _ l1 (rdOf ByteArray.empty l0 x5_1) true _ ?side1 ?side2 A5.out).mono ?_); (case side1 => exact pC HR1.1); (case side2 => exact HC1.1); rintro e w' ⟨rfl, ⟨nd, rfl⟩⟩; (try first | exact ⟨rfl, _, World.drewN_drewN _ _ _⟩ | exact ⟨rfl, _, Eq.trans (World.drewN_drewN _ _ _) (congrArg (World.drewN _) (Nat.add_assoc _ _ _))⟩)))
       repeat (go_quiet (first | (go_at_call 80; (with_reducible refine (spec_l1Has.calls k1 _ _ l1 (rdOf ByteArray.empty l0 x5_1) true _ ?side1 ?side2 A5.out).mono ?_); (case side1 => exact pC HR1.1); (case side2 => exact HC1.1); rintro e w' ⟨rfl, ⟨nd, rfl⟩⟩; (try first | exact ⟨rfl, _, World.drewN_drewN _ _ _⟩ | exact ⟨rfl, _, Eq.trans (World.drewN_drewN _ _ _) (congrArg (World.drewN _) (Nat.add_assoc _ _ _))⟩))); try go_wp2_with (first | (go_at_call 80; (with_reducible refine (spec_l1Has.calls k1 _ _ l1 (rdOf ByteArray.empty l0 x5_1) true _ ?side1 ?side2 A5.out).mono ?_); (case side1 => exact pC HR1.1); (case side2 => exact HC1.1); rintro e w' ⟨rfl, ⟨nd, rfl⟩⟩; (try first | exact ⟨rfl, _, World.drewN_drewN _ _ _⟩ | exact ⟨rfl, _, Eq.trans (World.drewN_drewN _ _ _) (congrArg (World.drewN _) (Nat.add_assoc _ _ _))⟩))))
       go_roundg k1
       case measure => have := HK1.out; omega
       case rel => exact ⟨(wrap64 (x5_1 + 1)), (pY51), H', ⟨by have := HK1.out; omega⟩, pY49⟩
     ·replace c6 := Bool.eq_false_iff.mpr c6
      subst c6
      have H1 : (some false) = some r := by rw [if_neg (show ¬ (false = true) by decide)] at H; exact H
      clear H
      have H := H1
      clear H1
      obtain rfl := Option.some.inj H
      have p101 : 0 ≤ (x5_1 : Int) := of_decide_eq_true (pY50)
      have q101 : x5_1 < (l0.length : Int) := of_decide_eq_true (pY50)
      obtain ⟨ad101, e101, hx101_0⟩ := Kd.at_string HR0.1 x5_1 p101 q101
      cases e101
      replace p101 := eq_true p101
      replace q101 := eq_true q101
      go_wp2_with (first | (go_at_call 80; (with_reducible refine (spec_l1Has.calls k1 _ _ l1 (rdOf ByteArray.empty l0 x5_1) false _ ?side1 ?side2 A5.out).mono ?_); (case side1 => exact pC HR1.1); (case side2 => exact HC1.1); rintro e w' ⟨rfl, ⟨nd, rfl⟩⟩; (try first | exact ⟨rfl, _, World.drewN_drewN _ _ _⟩ | exact ⟨rfl, _, Eq.trans (World.drewN_drewN _ _ _) (congrArg (World.drewN _) (Nat.add_assoc _ _ _))⟩)))
      repeat (go_quiet (first | (go_at_call 80; (with_reducible refine (spec_l1Has.calls k1 _ _ l1 (rdOf ByteArray.empty l0 x5_1) false _ ?side1 ?side2 A5.out).mono ?_); (case side1 => exact pC HR1.1); (case side2 => exact HC1.1); rintro e w' ⟨rfl, ⟨nd, rfl⟩⟩; (try first | exact ⟨rfl, _, World.drewN_drewN _ _ _⟩ | exact ⟨rfl, _, Eq.trans (World.drewN_drewN _ _ _) (congrArg (World.drewN _) (Nat.add_assoc _ _ _))⟩))); try go_wp2_with (first | (go_at_call 80; (with_reducible refine (spec_l1Has.calls k1 _ _ l1 (rdOf ByteArray.empty l0 x5_1) false _ ?side1 ?side2 A5.out).mono ?_); (case side1 => exact pC HR1.1); (case side2 => exact HC1.1); rintro e w' ⟨rfl, ⟨nd, rfl⟩⟩; (try first | exact ⟨rfl, _, World.drewN_drewN _ _ _⟩ | exact ⟨rfl, _, Eq.trans (World.drewN_drewN _ _ _) (congrArg (World.drewN _) (Nat.add_assoc _ _ _))⟩))))
      go_ret
      exact ⟨by first | rfl | (simp; done) | (simp [*]; done), pY49⟩
    ·rw [if_neg c4] at H
     exact absurd H (by simp)
   ·rw [if_neg c3] at H
    have c3b0 : decide (x5_1 < (l0.length : Int)) = false := decide_eq_false c3
    clear c3
    obtain rfl := Option.some.inj H
    go_wp2
    repeat (go_quiet (fail); try go_wp2)
    go_ret
    exact ⟨by first | rfl | (simp; done) | (simp [*]; done), pY49⟩
end Go.Proofs.Ytaofjgnhapnndaa.Q
namespace Go.Proofs.Ytaofjgnhapnndaa.Q
open Go.RowKit Go.Proofs.YtaofjgnhapnndaaW.PrintWords Go.Proofs.YtaofjgnhapnndaaW.PrintLast Go.Proofs.YtaofjgnhapnndaaW.PrintMore
set_option linter.unusedVariables false
set_option linter.unusedSimpArgs false
def spec_l1Share.l0 : Nat → List ByteArray → List ByteArray → Int → Option (Bool)
 | 0, _, _, _ => none
 | k + 1, x0, x1, x5 => if x5 < (x0.length : Int) then (if 0 ≤ x5 then ((spec_l1Has.f k x1 (rdOf ByteArray.empty x0 x5)).bind fun t102 => (if t102 = true then (some true) else (spec_l1Share.l0 k x0 x1 (wrap64 (x5 + 1))))) else (none)) else (some false)
def spec_l1Share.f (k : Nat) (l0 : List ByteArray) (l1 : List ByteArray) : Option (Bool) := spec_l1Share.l0 k l0 l1 0
set_option maxHeartbeats 8000000 in
set_option maxRecDepth 100000 in
theorem spec_l1Share.calls (k : Nat) (A0 : Option Addr) (c0 : Nat) (l0 : List ByteArray) (A1 : Option Addr) (c1 : Nat) (l1 : List ByteArray) (r : Bool) (w : World) (hr0 : Kd.C Kd.string w A0 l0.length l0) (hc0 : l0.length ≤ c0) (hr1 : Kd.C Kd.string w A1 l1.length l1) (hc1 : l1.length ≤ c1) (h : spec_l1Share.f k l0 l1 = some r) :
  Calls Try.prog 72 #[.slice A0 l0.length c0, .slice A1 l1.length c1] w fun e w' => e = .returned (.bool r) ∧ Drawn0 w w' := by
 have HR0 := Aside0.mk hr0
 have HC0 := Aside0.mk hc0
 clear hr0 hc0
 have HR1 := Aside0.mk hr1
 have HC1 := Aside0.mk hc1
 clear hr1 hc1
 have H : (spec_l1Share.l0 k l0 l1 0) = some r := h
 clear h
 have H' := Aside0.mk H
 clear H
 go_enter Try.func72, Try.ntmps72
 go_wp2
 go_loopg [5] k (fun kq v5 w' => ∃ (x5_1 : Int), v5 = .int .i64 x5_1 ∧ Aside0 (spec_l1Share.l0 kq l0 l1 x5_1 = some r) ∧ Aside0 (kq ≤ k) ∧ Drawn0 w w')
 case atStart => exact ⟨(0), (pY51), H', ⟨Nat.le_refl _⟩, pY49⟩
 case round =>
  clear H'
  try clear c1
  try clear p2
  obtain ⟨x5_1, rfl, HA, HK1, ⟨m1, rfl⟩⟩ := hrel
  cases gk with
  | zero => exact absurd HA.out (by simp [spec_l1Share.l0])
  | succ k1 =>
   have H := HA.out
   clear HA
   simp only [spec_l1Share.l0] at H
   by_cases c3 : x5_1 < (l0.length : Int)
   ·rw [if_pos c3] at H
    have c3b0 : decide (x5_1 < (l0.length : Int)) = true := decide_eq_true c3
    clear c3
    by_cases c4 : 0 ≤ x5_1
    ·rw [if_pos c4] at H
     have c4b0 : decide (0 ≤ x5_1) = true := decide_eq_true c4
     clear c4
     replace H := Option.bind_eq_some_iff.mp H
     obtain ⟨t102, A50, H⟩ := H
     replace H : (if t102 = true then (some true) else (spec_l1Share.l0 k1 l0 l1 (wrap64 (x5_1 + 1)))) = some r := H
     have A5 := Aside0.mk A50
     clear A50
     by_cases c6 : t102 = true
     ·subst c6
      have H1 : (some true) = some r := by rw [if_pos rfl] at H; exact H
      clear H
      have H := H1
      clear H1
      obtain rfl := Option.some.inj H
      have p101 : 0 ≤ (x5_1 : Int) := of_decide_eq_true (pY50)
      have q101 : x5_1 < (l0.length : Int) := of_decide_eq_true (pY50)
      obtain ⟨ad101, e101, hx101_0⟩ := Kd.at_string HR0.1 x5_1 p101 q101
      cases e101
      replace p101 := eq_true p101
      replace q101 := eq_true q101
      go_wp2_with (first | ((with_reducible refine gate_callee (f := 80) rfl ?_); refine goesL_ (some 17) rfl rfl Try.func80 (by kernel_rfl) rfl #[.slice A1 l1.length c1, .string (rdOf ByteArray.empty l0 x5_1)] rfl (pY36) ?_; (with_reducible refine (spec_l1Has.calls k1 _ _ l1 (rdOf ByteArray.empty l0 x5_1) true _ ?side1 ?side2 A5.out).mono ?_); (case side1 => exact pC HR1.1); (case side2 => exact HC1.1); rintro e w' ⟨rfl, ⟨nd, rfl⟩⟩; refine ⟨_, rfl, ?_⟩))
      go_ret
      exact ⟨by first | rfl | (simp; done) | (simp [*]; done), pY49⟩
     ·replace c6 := Bool.eq_false_iff.mpr c6
      subst c6
      have H1 : (spec_l1Share.l0 k1 l0 l1 (wrap64 (x5_1 + 1))) = some r := by rw [if_neg (show ¬ (false = true) by decide)] at H; exact H
      clear H
      have H := H1
      clear H1
      have H' := Aside0.mk H
      clear H
      have p101 : 0 ≤ (x5_1 : Int) := of_decide_eq_true (pY50)
      have q101 : x5_1 < (l0.length : Int) := of_decide_eq_true (pY50)
      obtain ⟨ad101, e101, hx101_0⟩ := Kd.at_string HR0.1 x5_1 p101 q101
      cases e101
      replace p101 := eq_true p101
      replace q101 := eq_true q101
      go_wp2_with (first | ((with_reducible refine gate_callee (f := 80) rfl ?_); refine goesL_ (some 17) rfl rfl Try.func80 (by kernel_rfl) rfl #[.slice A1 l1.length c1, .string (rdOf ByteArray.empty l0 x5_1)] rfl (pY36) ?_; (with_reducible refine (spec_l1Has.calls k1 _ _ l1 (rdOf ByteArray.empty l0 x5_1) false _ ?side1 ?side2 A5.out).mono ?_); (case side1 => exact pC HR1.1); (case side2 => exact HC1.1); rintro e w' ⟨rfl, ⟨nd, rfl⟩⟩; refine ⟨_, rfl, ?_⟩))
      go_roundg k1
      case measure => have := HK1.out; omega
      case rel => exact ⟨(wrap64 (x5_1 + 1)), (pY51), H', ⟨by have := HK1.out; omega⟩, pY49⟩
    ·rw [if_neg c4] at H
     exact absurd H (by simp)
   ·rw [if_neg c3] at H
    have c3b0 : decide (x5_1 < (l0.length : Int)) = false := decide_eq_false c3
    clear c3
    obtain rfl := Option.some.inj H
    go_wp2
    go_ret
    exact ⟨by first | rfl | (simp; done) | (simp [*]; done), pY49⟩
end Go.Proofs.Ytaofjgnhapnndaa.Q
namespace Go.Proofs.Ytaofjgnhapnndaa.Q
open Go.RowKit Go.Proofs.YtaofjgnhapnndaaW.PrintWords Go.Proofs.YtaofjgnhapnndaaW.PrintLast Go.Proofs.YtaofjgnhapnndaaW.PrintMore
set_option linter.unusedVariables false
set_option linter.unusedSimpArgs false
mutual
def spec_ShareBookOk.j0 : Nat → Bool → List ByteArray → List (S56) → Option (Bool)
 | 0, _, _, _ => none
 | k + 1, x15, x102000, x102001 => if x15 = true then (some false) else (spec_ShareBookOk.l0 k 0 x102000 x102001)
def spec_ShareBookOk.l0 : Nat → Int → List ByteArray → List (S56) → Option (Bool)
 | 0, _, _, _ => none
 | k + 1, x3, x102000, x102001 => if x3 < (x102001.length : Int) then (if 0 ≤ x3 then ((spec_l1NameOk.f k ((rd_T56 x102001 x3).f0)).bind fun t105 => (if t105 = true then (if x3 > 0 then (if 0 ≤ (wrap64 (x3 - 1)) then (if (wrap64 (x3 - 1)) < (x102001.length : Int) then (if ((Op.bytesLess (((rd_T56 x102001 (wrap64 (x3 - 1))).f0).toList) (((rd_T56 x102001 x3).f0).toList)) = true) then ((spec_l1NamesOk.f k ((rd_T56 x102001 x3).f2) x102000).bind fun t107 => (if t107 = true then ((spec_l1NamesOk.f k ((rd_T56 x102001 x3).f1) ((rd_T56 x102001 x3).f2)).bind fun t108 => (spec_ShareBookOk.j2 k x3 (!t108) x102000 x102001 ((rd_T56 x102001 x3).f0) ((rd_T56 x102001 x3).f1) ((rd_T56 x102001 x3).f2))) else (spec_ShareBookOk.j2 k x3 true x102000 x102001 ((rd_T56 x102001 x3).f0) ((rd_T56 x102001 x3).f1) ((rd_T56 x102001 x3).f2)))) else (spec_ShareBookOk.j2 k x3 true x102000 x102001 ((rd_T56 x102001 x3).f0) ((rd_T56 x102001 x3).f1) ((rd_T56 x102001 x3).f2))) else (none)) else (none)) else ((spec_l1NamesOk.f k ((rd_T56 x102001 x3).f2) x102000).bind fun t109 => (if t109 = true then ((spec_l1NamesOk.f k ((rd_T56 x102001 x3).f1) ((rd_T56 x102001 x3).f2)).bind fun t110 => (spec_ShareBookOk.j2 k x3 (!t110) x102000 x102001 ((rd_T56 x102001 x3).f0) ((rd_T56 x102001 x3).f1) ((rd_T56 x102001 x3).f2))) else (spec_ShareBookOk.j2 k x3 true x102000 x102001 ((rd_T56 x102001 x3).f0) ((rd_T56 x102001 x3).f1) ((rd_T56 x102001 x3).f2))))) else (spec_ShareBookOk.j2 k x3 true x102000 x102001 ((rd_T56 x102001 x3).f0) ((rd_T56 x102001 x3).f1) ((rd_T56 x102001 x3).f2)))) else (none)) else (some true)
def spec_ShareBookOk.j2 : Nat → Int → Bool → List ByteArray → List (S56) → ByteArray → List ByteArray → List ByteArray → Option (Bool)
 | 0, _, _, _, _, _, _, _ => none
 | k + 1, x3, x63, x102000, x102001, x105000, x105001, x105002 => if x63 = true then (some false) else (spec_ShareBookOk.l1 k x3 0 x102000 x102001 x105000 x105001 x105002)
def spec_ShareBookOk.l1 : Nat → Int → Int → List ByteArray → List (S56) → ByteArray → List ByteArray → List ByteArray → Option (Bool)
 | 0, _, _, _, _, _, _, _ => none
 | k + 1, x3, x5, x102000, x102001, x105000, x105001, x105002 => if x5 < x3 then (if 0 ≤ x5 then (if x5 < (x102001.length : Int) then ((spec_l1Share.f k x105001 ((rd_T56 x102001 x5).f1)).bind fun t112 => (if t112 = true then (some false) else (spec_ShareBookOk.l1 k x3 (wrap64 (x5 + 1)) x102000 x102001 x105000 x105001 x105002))) else (none)) else (none)) else (spec_ShareBookOk.l0 k (wrap64 (x3 + 1)) x102000 x102001)
end
def spec_ShareBookOk.f (k : Nat) (l0_0 : List ByteArray) (l0_1 : List (S56)) : Option (Bool) := (spec_l1ThingsOk.f k l0_0).bind fun t102 => (if t102 = true then (spec_ShareBookOk.j0 k (decide ((l0_1.length : Int) > 5)) l0_0 l0_1) else (spec_ShareBookOk.j0 k true l0_0 l0_1))
def spec_ShareBookOk.T7 : Bool × List (List Nat × List Nat) := (true, [([], []), ([0], [0]), ([1], [1]), ([2], [2]), ([3, 2], [3]), ([4], [4]), ([5, 4], [4, 5]), ([6, 4, 4], [4, 6]), ([7], [7]), ([8, 7], [7, 8]), ([7], [7]), ([10, 7], [7, 10]), ([9, 11, 7], [7, 9, 11]), ([12, 7], [7, 12]), ([13, 7], [7, 13]), ([7], [7]), ([15, 7], [7, 15]), ([14, 16, 7], [7, 14, 16]), ([7, 17, 4], [4, 7, 17]), ([4, 18], [4, 18]), ([19, 7], [19]), ([20], [20]), ([21, 20], [20, 21]), ([20], [20]), ([23, 20], [20, 23]), ([22, 24, 20, 20], [20, 22, 24]), ([25, 20], [20, 25]), ([20, 26], [20, 26]), ([27, 25], [27]), ([28], [28]), ([29, 28], [28, 29]), ([28], [28]), ([31, 28], [28, 31]), ([30, 32, 28, 28], [28, 30, 32]), ([33, 28], [28, 33]), ([28, 34], [28, 34])])
def spec_ShareBookOk.B7 : List Nat := [0, 1, 3, 7, 15, 31, 63, 127, 255, 511, 255, 1279, 4095, 8191, 16383, 255, 33023, 131071, 262143, 524287, 1048575, 2097151, 4194303, 2097151, 10485759, 33554431, 67108863, 134217727, 268435455, 536870911, 1073741823, 536870911, 2684354559, 8589934591, 17179869183, 34359738367]
theorem spec_ShareBookOk.tab7 : rtab .any (opsOf Try.f22 7) = spec_ShareBookOk.T7 := by kernel_rfl
theorem spec_ShareBookOk.bits7 : waitsOk spec_ShareBookOk.T7.2 spec_ShareBookOk.B7 = true := by kernel_rfl
def spec_ShareBookOk.T12 : Bool × List (List Nat × List Nat) := (true, [([], []), ([0], [0]), ([], []), ([2], [2]), ([], []), ([3, 4], [3, 4]), ([5], [5]), ([6], [6]), ([1, 7], [1, 7])])
def spec_ShareBookOk.B12 : List Nat := [0, 1, 0, 4, 0, 28, 60, 124, 255]
theorem spec_ShareBookOk.tab12 : rtab .any (opsOf Try.f22 12) = spec_ShareBookOk.T12 := by kernel_rfl
theorem spec_ShareBookOk.bits12 : waitsOk spec_ShareBookOk.T12.2 spec_ShareBookOk.B12 = true := by kernel_rfl
set_option maxHeartbeats 8000000 in
set_option maxRecDepth 100000 in
theorem spec_ShareBookOk.calls (k : Nat) (A0_0 : Option Addr) (c0_0 : Nat) (l0_0 : List ByteArray) (A0_1 : Option Addr) (c0_1 : Nat) (l0_1 : List (S56)) (r : Bool) (w : World) (hr0_0 : Kd.C Kd.string w A0_0 l0_0.length l0_0) (hc0_0 : l0_0.length ≤ c0_0) (hr0_1 : Kd.C k56 w A0_1 l0_1.length l0_1) (hc0_1 : l0_1.length ≤ c0_1) (h : spec_ShareBookOk.f k l0_0 l0_1 = some r) :
  Calls Try.prog 22 #[.agg #[.slice A0_0 l0_0.length c0_0, .slice A0_1 l0_1.length c0_1]] w fun e w' => e = .returned (.bool r) ∧ Below w.heap.size w w' := by
 have hu31 := Try.underlying31
 have hu56 := Try.underlying56
 have HR0_0 := Aside0.mk hr0_0
 have HC0_0 := Aside0.mk hc0_0
 clear hr0_0 hc0_0
 have HR0_1 := Aside0.mk hr0_1
 have HC0_1 := Aside0.mk hc0_1
 clear hr0_1 hc0_1
 have HB := Aside0.mk (Below.refl w.heap.size w)
 have H : ((spec_l1ThingsOk.f k l0_0).bind fun t102 => (if t102 = true then (spec_ShareBookOk.j0 k (decide ((l0_1.length : Int) > 5)) l0_0 l0_1) else (spec_ShareBookOk.j0 k true l0_0 l0_1))) = some r := h
 clear h
 have HC2 := Aside0.mk H
 clear H
 go_enter Try.func22, Try.ntmps22
 go_upto_region 1 with (first | ((with_reducible refine gate_dst (N := 1) rfl ?_); (try (refine gate_guard (by rfl) ?_; dsimp only)); refine box_event ?hg (N := 1) ?hd (cs := #[.slice A0_0 l0_0.length c0_0, .slice A0_1 l0_1.length c0_1]) (t := 31) ?hr ?_; (case hd => rfl); (case hg => rfl); (case hr => first | (go_simp; done) | (go_simp; rfl)); intro gb101 hg w3 hbox hb; have n0_ := Aside0.mk (below_step (pY37) hb); have n1_ := Aside0.mk (hbox); have n2_ := Aside0.mk ((pY34 : w.heap.size ≤ gb101)); have n3_ := Aside0.mk ((pY34 : w.heap.size ≤ gb101)); clear HB; have HB := n0_; have BK101 := n1_; have GW101 := n2_; have GE101 := n3_; clear n0_ n1_ n2_ n3_; clear hb hbox hg))
 (try simp only [Act.put, List.setIfInBounds_toArray, List.set_cons_zero, List.set_cons_succ])
 go_cut [15] (fun v15 wc => ∃ (kq : Nat) (x15_1 : Bool), v15 = .bool x15_1 ∧ Aside0 (spec_ShareBookOk.j0 kq x15_1 l0_0 l0_1 = some r) ∧ Aside0 (kq ≤ k) ∧ Aside0 (wc.heap[gb101]? = some (.cells #[(.slice A0_0 l0_0.length c0_0), (.slice A0_1 l0_1.length c0_1)] 31 (0, 0))) ∧ Aside0 (Below w.heap.size w wc))
 case first =>
  have H := HC2.1
  clear HC2
  replace H := Option.bind_eq_some_iff.mp H
  obtain ⟨t102, A40, H⟩ := H
  replace H : (if t102 = true then (spec_ShareBookOk.j0 k (decide ((l0_1.length : Int) > 5)) l0_0 l0_1) else (spec_ShareBookOk.j0 k true l0_0 l0_1)) = some r := H
  have A4 := Aside0.mk A40
  clear A40
  by_cases c5 : t102 = true
  ·subst c5
   have H1 : (spec_ShareBookOk.j0 k (decide ((l0_1.length : Int) > 5)) l0_0 l0_1) = some r := by rw [if_pos rfl] at H; exact H
   clear H
   have H := H1
   clear H1
   have H' := Aside0.mk H
   clear H
   have hcz6_0 : w3.cell? ⟨gb101, 0, none⟩ = some (.slice A0_0 l0_0.length c0_0) := (blk_cell BK101.1 0).trans rfl
   have hcz6_1 : w3.cell? ⟨gb101, 1, none⟩ = some (.slice A0_1 l0_1.length c0_1) := (blk_cell BK101.1 1).trans rfl
   have hfz6_0 := blk_frozen BK101.1 0
   have hfz6_1 := blk_frozen BK101.1 1
   go_wp2_with (first | ((with_reducible refine gate_callee (f := 69) rfl ?_); refine goesL_ (some 8) rfl rfl Try.func69 (by kernel_rfl) rfl #[.slice A0_0 l0_0.length c0_0] rfl (pY36) ?_; (with_reducible refine (spec_l1ThingsOk.calls k _ _ l0_0 true _ ?side1 ?side2 A4.out).mono ?_); (case side1 => exact pC (Kd.C_below HR0_0.1 HB.1)); (case side2 => exact HC0_0.1); rintro e w' ⟨rfl, ⟨nd, rfl⟩⟩; refine ⟨_, rfl, ?_⟩))
   go_meet
   case rel => exact ⟨_, (decide ((l0_1.length : Int) > 5)), (pY51), H', ⟨by first | omega | exact Nat.le_refl _⟩, ⟨by (with_reducible repeat (first | refine blk_drewN ?_ _ | refine blk_drew ?_ | refine blk_alloc ?_ _)); exact BK101.1⟩, ⟨pY35⟩⟩
  ·replace c5 := Bool.eq_false_iff.mpr c5
   subst c5
   have H1 : (spec_ShareBookOk.j0 k true l0_0 l0_1) = some r := by rw [if_neg (show ¬ (false = true) by decide)] at H; exact H
   clear H
   have H := H1
   clear H1
   have H' := Aside0.mk H
   clear H
   have hcz7_0 : w3.cell? ⟨gb101, 0, none⟩ = some (.slice A0_0 l0_0.length c0_0) := (blk_cell BK101.1 0).trans rfl
   have hcz7_1 : w3.cell? ⟨gb101, 1, none⟩ = some (.slice A0_1 l0_1.length c0_1) := (blk_cell BK101.1 1).trans rfl
   have hfz7_0 := blk_frozen BK101.1 0
   have hfz7_1 := blk_frozen BK101.1 1
   go_wp2_with (first | ((with_reducible refine gate_callee (f := 69) rfl ?_); refine goesL_ (some 8) rfl rfl Try.func69 (by kernel_rfl) rfl #[.slice A0_0 l0_0.length c0_0] rfl (pY36) ?_; (with_reducible refine (spec_l1ThingsOk.calls k _ _ l0_0 false _ ?side1 ?side2 A4.out).mono ?_); (case side1 => exact pC (Kd.C_below HR0_0.1 HB.1)); (case side2 => exact HC0_0.1); rintro e w' ⟨rfl, ⟨nd, rfl⟩⟩; refine ⟨_, rfl, ?_⟩))
   go_meet
   case rel => exact ⟨_, (true), (pY51), H', ⟨by first | omega | exact Nat.le_refl _⟩, ⟨by (with_reducible repeat (first | refine blk_drewN ?_ _ | refine blk_drew ?_ | refine blk_alloc ?_ _)); exact BK101.1⟩, ⟨pY35⟩⟩
 case rest =>
  clear HC2
  try clear c2
  try clear p2
  try clear c5
  try clear c6
  try clear hcz6_0
  try clear hcz6_1
  try clear hcz7_0
  try clear hcz7_1
  try clear hfz6_0
  try clear hfz6_1
  try clear hfz7_0
  try clear hfz7_1
  obtain ⟨kq, x15_1, rfl, HA, HJ1, BK101, HB⟩ := hcut
  cases kq with
  | zero => exact absurd HA.out (by simp [spec_ShareBookOk.j0])
  | succ kj1 =>
   have H := HA.out
   clear HA
   simp only [spec_ShareBookOk.j0] at H
   by_cases c8 : x15_1 = true
   ·subst c8
    have H1 : (some false) = some r := by rw [if_pos rfl] at H; exact H
    clear H
    have H := H1
    clear H1
    obtain rfl := Option.some.inj H
    go_wp2
    go_ret
    exact ⟨by first | rfl | (simp [errW_none, errW_some] <;> rfl) | (simp [*, errW_none, errW_some] <;> rfl), pY35⟩
   ·replace c8 := Bool.eq_false_iff.mpr c8
    subst c8
    have H1 : (spec_ShareBookOk.l0 kj1 0 l0_0 l0_1) = some r := by rw [if_neg (show ¬ (false = true) by decide)] at H; exact H
    clear H
    have H := H1
    clear H1
    have H' := Aside0.mk H
    clear H
    go_wp2
    go_loopg [3] kj1 (fun kq v3 w' => ∃ (x3_2 : Int), v3 = .int .i64 x3_2 ∧ Aside0 (spec_ShareBookOk.l0 kq x3_2 l0_0 l0_1 = some r) ∧ Aside0 (kq ≤ kj1) ∧ Aside0 (w'.heap[gb101]? = some (.cells #[(.slice A0_0 l0_0.length c0_0), (.slice A0_1 l0_1.length c0_1)] 31 (0, 0))) ∧ Aside0 (Below w.heap.size w w'))
    case atStart => exact ⟨(0), (pY51), H', ⟨Nat.le_refl _⟩, ⟨by (with_reducible repeat (first | refine blk_drewN ?_ _ | refine blk_drew ?_ | refine blk_alloc ?_ _)); exact BK101.1⟩, ⟨pY35⟩⟩
    case round =>
     clear H'
     try clear c2
     try clear p2
     try clear c5
     try clear c6
     try clear c8
     try clear hcz6_0
     try clear hcz6_1
     try clear hcz7_0
     try clear hcz7_1
     try clear hfz6_0
     try clear hfz6_1
     try clear hfz7_0
     try clear hfz7_1
     try clear p2
     obtain ⟨x3_2, rfl, HA, HK2, BK101, HB⟩ := hrel
     cases gk with
     | zero => exact absurd HA.out (by simp [spec_ShareBookOk.l0])
     | succ k2 =>
      have H := HA.out
      clear HA
      simp only [spec_ShareBookOk.l0] at H
      by_cases c9 : x3_2 < (l0_1.length : Int)
      ·rw [if_pos c9] at H
       have c9b0 : decide (x3_2 < (l0_1.length : Int)) = true := decide_eq_true c9
       clear c9
       by_cases c10 : 0 ≤ x3_2
       ·rw [if_pos c10] at H
        have c10b0 : decide (0 ≤ x3_2) = true := decide_eq_true c10
        clear c10
        have HC11 := Aside0.mk H
        clear H
        have hcz12_0 : wr.cell? ⟨gb101, 0, none⟩ = some (.slice A0_0 l0_0.length c0_0) := (blk_cell BK101.1 0).trans rfl
        have hcz12_1 : wr.cell? ⟨gb101, 1, none⟩ = some (.slice A0_1 l0_1.length c0_1) := (blk_cell BK101.1 1).trans rfl
        have hfz12_0 := blk_frozen BK101.1 0
        have hfz12_1 := blk_frozen BK101.1 1
        have p103 : 0 ≤ (x3_2 : Int) := of_decide_eq_true (pY50)
        have q103 : x3_2 < (l0_1.length : Int) := of_decide_eq_true (pY50)
        obtain ⟨ad103, A103_1, c103_1, A103_2, c103_2, e103, hx103_0, hx103_1, hx103_2, hl103_1, hi103_1, hl103_2, hi103_2⟩ := at_T56 HR0_1.1 x3_2 p103 q103
        cases e103
        replace hx103_0 := (HB.1.cell (World.block_lt_of_cell? w _ hx103_0)).trans hx103_0
        replace hx103_1 := (HB.1.cell (World.block_lt_of_cell? w _ hx103_1)).trans hx103_1
        replace hx103_2 := (HB.1.cell (World.block_lt_of_cell? w _ hx103_2)).trans hx103_2
        have HR103_1 := Aside0.mk hi103_1
        have HC103_1 := Aside0.mk hl103_1
        clear hi103_1 hl103_1
        have HR103_2 := Aside0.mk hi103_2
        have HC103_2 := Aside0.mk hl103_2
        clear hi103_2 hl103_2
        replace p103 := eq_true p103
        replace q103 := eq_true q103
        go_upto_region 7 with (first | ((with_reducible refine gate_dst (N := 4) rfl ?_); (try (refine gate_guard (by rfl) ?_; dsimp only)); refine box_event ?hg (N := 4) ?hd (cs := #[.string (⟨#[]⟩ : ByteArray), .slice none 0 0, .slice none 0 0]) (t := 56) ?hr ?_; (case hd => rfl); (case hg => rfl); (case hr => first | (go_simp; done) | (go_simp; rfl)); intro gb104 hg w13 hbox hb; have n0_ := Aside0.mk (blk_below (g := gb101) (o := .cells #[.slice A0_0 l0_0.length c0_0, .slice (some ad103) l0_1.length c0_1] 31 (0, 0)) (pY38) hb); have n1_ := Aside0.mk (below_step (pY35) hb); have n2_ := Aside0.mk (hbox); have n3_ := Aside0.mk ((pY27 : w.heap.size ≤ gb104)); have n4_ := Aside0.mk ((pY27 : w.heap.size ≤ gb104)); have n5_ := Aside0.mk ((by rw [hg]; exact Nat.ne_of_lt (blk_lt (g := gb101) (o := .cells #[.slice A0_0 l0_0.length c0_0, .slice (some ad103) l0_1.length c0_1] 31 (0, 0)) (pY38)) : gb101 ≠ gb104)); have n6_ := Aside0.mk ((by rw [hg]; exact Nat.ne_of_gt (blk_lt (g := gb101) (o := .cells #[.slice A0_0 l0_0.length c0_0, .slice (some ad103) l0_1.length c0_1] 31 (0, 0)) (pY38)) : gb104 ≠ gb101)); clear BK101; clear HB; have BK101 := n0_; have HB := n1_; have BK104 := n2_; have GW104 := n3_; have GE104 := n4_; have NB101_104 := n5_; have NB104_101 := n6_; clear n0_ n1_ n2_ n3_ n4_ n5_ n6_; clear hb hbox hg; have hnb14 := NB104_101.1; have hnc14 := NB101_104.1; have hcz15_0 : w13.cell? ⟨gb104, 0, none⟩ = some (.string (⟨#[]⟩ : ByteArray)) := (blk_cell BK104.1 0).trans rfl; have hcz15_1 : w13.cell? ⟨gb104, 1, none⟩ = some (.slice none 0 0) := (blk_cell BK104.1 1).trans rfl; have hcz15_2 : w13.cell? ⟨gb104, 2, none⟩ = some (.slice none 0 0) := (blk_cell BK104.1 2).trans rfl; have hfz15_0 := blk_frozen BK104.1 0; have hfz15_1 := blk_frozen BK104.1 1; have hfz15_2 := blk_frozen BK104.1 2))
        (try simp only [Act.put, List.setIfInBounds_toArray, List.set_cons_zero, List.set_cons_succ])
        go_cut [63] (fun v63 wc => ∃ (kq : Nat) (x63_10 : Bool), v63 = .bool x63_10 ∧ Aside0 (spec_ShareBookOk.j2 kq x3_2 x63_10 l0_0 l0_1 ((rd_T56 l0_1 x3_2).f0) ((rd_T56 l0_1 x3_2).f1) ((rd_T56 l0_1 x3_2).f2) = some r) ∧ Aside0 (kq ≤ k2) ∧ Aside0 (wc.heap[gb101]? = some (.cells #[(.slice A0_0 l0_0.length c0_0), (.slice (some ad103) l0_1.length c0_1)] 31 (0, 0))) ∧ Aside0 (wc.heap[gb104]? = some (.cells #[.string ((rd_T56 l0_1 x3_2).f0), (.slice A103_1 ((rd_T56 l0_1 x3_2).f1).length c103_1), (.slice A103_2 ((rd_T56 l0_1 x3_2).f2).length c103_2)] 56 (0, 0))) ∧ Aside0 (Below w.heap.size w wc))
        case first =>
         have H := HC11.1
         clear HC11
         replace H := Option.bind_eq_some_iff.mp H
         obtain ⟨t105, A160, H⟩ := H
         replace H : (if t105 = true then (if x3_2 > 0 then (if 0 ≤ (wrap64 (x3_2 - 1)) then (if (wrap64 (x3_2 - 1)) < (l0_1.length : Int) then (if ((Op.bytesLess (((rd_T56 l0_1 (wrap64 (x3_2 - 1))).f0).toList) (((rd_T56 l0_1 x3_2).f0).toList)) = true) then ((spec_l1NamesOk.f k2 ((rd_T56 l0_1 x3_2).f2) l0_0).bind fun t107 => (if t107 = true then ((spec_l1NamesOk.f k2 ((rd_T56 l0_1 x3_2).f1) ((rd_T56 l0_1 x3_2).f2)).bind fun t108 => (spec_ShareBookOk.j2 k2 x3_2 (!t108) l0_0 l0_1 ((rd_T56 l0_1 x3_2).f0) ((rd_T56 l0_1 x3_2).f1) ((rd_T56 l0_1 x3_2).f2))) else (spec_ShareBookOk.j2 k2 x3_2 true l0_0 l0_1 ((rd_T56 l0_1 x3_2).f0) ((rd_T56 l0_1 x3_2).f1) ((rd_T56 l0_1 x3_2).f2)))) else (spec_ShareBookOk.j2 k2 x3_2 true l0_0 l0_1 ((rd_T56 l0_1 x3_2).f0) ((rd_T56 l0_1 x3_2).f1) ((rd_T56 l0_1 x3_2).f2))) else (none)) else (none)) else ((spec_l1NamesOk.f k2 ((rd_T56 l0_1 x3_2).f2) l0_0).bind fun t109 => (if t109 = true then ((spec_l1NamesOk.f k2 ((rd_T56 l0_1 x3_2).f1) ((rd_T56 l0_1 x3_2).f2)).bind fun t110 => (spec_ShareBookOk.j2 k2 x3_2 (!t110) l0_0 l0_1 ((rd_T56 l0_1 x3_2).f0) ((rd_T56 l0_1 x3_2).f1) ((rd_T56 l0_1 x3_2).f2))) else (spec_ShareBookOk.j2 k2 x3_2 true l0_0 l0_1 ((rd_T56 l0_1 x3_2).f0) ((rd_T56 l0_1 x3_2).f1) ((rd_T56 l0_1 x3_2).f2))))) else (spec_ShareBookOk.j2 k2 x3_2 true l0_0 l0_1 ((rd_T56 l0_1 x3_2).f0) ((rd_T56 l0_1 x3_2).f1) ((rd_T56 l0_1 x3_2).f2))) = some r := H
         have A16 := Aside0.mk A160
         clear A160
         by_cases c17 : t105 = true
         ·subst c17
          have H1 : (if x3_2 > 0 then (if 0 ≤ (wrap64 (x3_2 - 1)) then (if (wrap64 (x3_2 - 1)) < (l0_1.length : Int) then (if ((Op.bytesLess (((rd_T56 l0_1 (wrap64 (x3_2 - 1))).f0).toList) (((rd_T56 l0_1 x3_2).f0).toList)) = true) then ((spec_l1NamesOk.f k2 ((rd_T56 l0_1 x3_2).f2) l0_0).bind fun t107 => (if t107 = true then ((spec_l1NamesOk.f k2 ((rd_T56 l0_1 x3_2).f1) ((rd_T56 l0_1 x3_2).f2)).bind fun t108 => (spec_ShareBookOk.j2 k2 x3_2 (!t108) l0_0 l0_1 ((rd_T56 l0_1 x3_2).f0) ((rd_T56 l0_1 x3_2).f1) ((rd_T56 l0_1 x3_2).f2))) else (spec_ShareBookOk.j2 k2 x3_2 true l0_0 l0_1 ((rd_T56 l0_1 x3_2).f0) ((rd_T56 l0_1 x3_2).f1) ((rd_T56 l0_1 x3_2).f2)))) else (spec_ShareBookOk.j2 k2 x3_2 true l0_0 l0_1 ((rd_T56 l0_1 x3_2).f0) ((rd_T56 l0_1 x3_2).f1) ((rd_T56 l0_1 x3_2).f2))) else (none)) else (none)) else ((spec_l1NamesOk.f k2 ((rd_T56 l0_1 x3_2).f2) l0_0).bind fun t109 => (if t109 = true then ((spec_l1NamesOk.f k2 ((rd_T56 l0_1 x3_2).f1) ((rd_T56 l0_1 x3_2).f2)).bind fun t110 => (spec_ShareBookOk.j2 k2 x3_2 (!t110) l0_0 l0_1 ((rd_T56 l0_1 x3_2).f0) ((rd_T56 l0_1 x3_2).f1) ((rd_T56 l0_1 x3_2).f2))) else (spec_ShareBookOk.j2 k2 x3_2 true l0_0 l0_1 ((rd_T56 l0_1 x3_2).f0) ((rd_T56 l0_1 x3_2).f1) ((rd_T56 l0_1 x3_2).f2))))) = some r := by rw [if_pos rfl] at H; exact H
          clear H
          have H := H1
          clear H1
          by_cases c18 : x3_2 > 0
          ·rw [if_pos c18] at H
           have c18b0 : decide (0 < x3_2) = true := decide_eq_true c18
           clear c18
           (first | rw [c18b0] | (simp only [i64_w, i32_w]; rw [c18b0]) | skip)
           obtain ⟨ji19, hji19⟩ : ∃ j_ : Int, (wrap64 (x3_2 - 1)) = j_ := ⟨_, rfl⟩
           replace H : (if 0 ≤ (ji19) then (if (ji19) < (l0_1.length : Int) then (if ((Op.bytesLess (((rd_T56 l0_1 (ji19)).f0).toList) (((rd_T56 l0_1 x3_2).f0).toList)) = true) then ((spec_l1NamesOk.f k2 ((rd_T56 l0_1 x3_2).f2) l0_0).bind fun t107 => (if t107 = true then ((spec_l1NamesOk.f k2 ((rd_T56 l0_1 x3_2).f1) ((rd_T56 l0_1 x3_2).f2)).bind fun t108 => (spec_ShareBookOk.j2 k2 x3_2 (!t108) l0_0 l0_1 ((rd_T56 l0_1 x3_2).f0) ((rd_T56 l0_1 x3_2).f1) ((rd_T56 l0_1 x3_2).f2))) else (spec_ShareBookOk.j2 k2 x3_2 true l0_0 l0_1 ((rd_T56 l0_1 x3_2).f0) ((rd_T56 l0_1 x3_2).f1) ((rd_T56 l0_1 x3_2).f2)))) else (spec_ShareBookOk.j2 k2 x3_2 true l0_0 l0_1 ((rd_T56 l0_1 x3_2).f0) ((rd_T56 l0_1 x3_2).f1) ((rd_T56 l0_1 x3_2).f2))) else (none)) else (none)) = some r := by first | (rw [hji19] at H; exact H) | (simp only [hji19] at H ⊢; exact H)
           (try rw [hji19] at A16)
           have hji19w : (IntKind.i64.wrap (x3_2 - 1)) = ji19 := (i64_w _).trans hji19
           by_cases c20 : 0 ≤ (ji19)
           ·rw [if_pos c20] at H
            have c20b0 : decide (0 ≤ (ji19)) = true := decide_eq_true c20
            clear c20
            by_cases c21 : (ji19) < (l0_1.length : Int)
            ·rw [if_pos c21] at H
             have c21b0 : decide ((ji19) < (l0_1.length : Int)) = true := decide_eq_true c21
             clear c21
             by_cases c22 : ((Op.bytesLess (((rd_T56 l0_1 (ji19)).f0).toList) (((rd_T56 l0_1 x3_2).f0).toList)) = true)
             ·rw [if_pos c22] at H
              have c22b0 : (Op.bytesLess (((rd_T56 l0_1 (ji19)).f0).toList) (((rd_T56 l0_1 x3_2).f0).toList)) = true := c22
              clear c22
              replace H := Option.bind_eq_some_iff.mp H
              obtain ⟨t107, A230, H⟩ := H
              replace H : (if t107 = true then ((spec_l1NamesOk.f k2 ((rd_T56 l0_1 x3_2).f1) ((rd_T56 l0_1 x3_2).f2)).bind fun t108 => (spec_ShareBookOk.j2 k2 x3_2 (!t108) l0_0 l0_1 ((rd_T56 l0_1 x3_2).f0) ((rd_T56 l0_1 x3_2).f1) ((rd_T56 l0_1 x3_2).f2))) else (spec_ShareBookOk.j2 k2 x3_2 true l0_0 l0_1 ((rd_T56 l0_1 x3_2).f0) ((rd_T56 l0_1 x3_2).f1) ((rd_T56 l0_1 x3_2).f2))) = some r := H
              have A23 := Aside0.mk A230
              clear A230
              by_cases c24 : t107 = true
              ·subst c24
               have H1 : ((spec_l1NamesOk.f k2 ((rd_T56 l0_1 x3_2).f1) ((rd_T56 l0_1 x3_2).f2)).bind fun t108 => (spec_ShareBookOk.j2 k2 x3_2 (!t108) l0_0 l0_1 ((rd_T56 l0_1 x3_2).f0) ((rd_T56 l0_1 x3_2).f1) ((rd_T56 l0_1 x3_2).f2))) = some r := by rw [if_pos rfl] at H; exact H
               clear H
               have H := H1
               clear H1
               replace H := Option.bind_eq_some_iff.mp H
               obtain ⟨t108, A250, H⟩ := H
               replace H : (spec_ShareBookOk.j2 k2 x3_2 (!t108) l0_0 l0_1 ((rd_T56 l0_1 x3_2).f0) ((rd_T56 l0_1 x3_2).f1) ((rd_T56 l0_1 x3_2).f2)) = some r := H
               have A25 := Aside0.mk A250
               clear A250
               have H' := Aside0.mk H
               clear H
               try go_wp2
               have n0_ : Aside0 ((((w13.setCell ⟨gb104, 0, none⟩ (.string ((rd_T56 l0_1 x3_2).f0))).setCell ⟨gb104, 1, none⟩ (.slice A103_1 ((rd_T56 l0_1 x3_2).f1).length c103_1)).setCell ⟨gb104, 2, none⟩ (.slice A103_2 ((rd_T56 l0_1 x3_2).f2).length c103_2)).heap[gb101]? = some (.cells #[.slice A0_0 l0_0.length c0_0, .slice (some ad103) l0_1.length c0_1] 31 (0, 0))) := ⟨by (with_reducible repeat (first | refine blk_drewN ?_ _ | refine blk_drew ?_ | refine blk_alloc ?_ _)); refine blk_far ?_ NB101_104.1 _; (with_reducible repeat (first | refine blk_drewN ?_ _ | refine blk_drew ?_ | refine blk_alloc ?_ _)); refine blk_far ?_ NB101_104.1 _; (with_reducible repeat (first | refine blk_drewN ?_ _ | refine blk_drew ?_ | refine blk_alloc ?_ _)); refine blk_far ?_ NB101_104.1 _; (with_reducible repeat (first | refine blk_drewN ?_ _ | refine blk_drew ?_ | refine blk_alloc ?_ _)); exact BK101.1⟩
               have n1_ : Aside0 ((((w13.setCell ⟨gb104, 0, none⟩ (.string ((rd_T56 l0_1 x3_2).f0))).setCell ⟨gb104, 1, none⟩ (.slice A103_1 ((rd_T56 l0_1 x3_2).f1).length c103_1)).setCell ⟨gb104, 2, none⟩ (.slice A103_2 ((rd_T56 l0_1 x3_2).f2).length c103_2)).heap[gb104]? = some (.cells #[.string ((rd_T56 l0_1 x3_2).f0), .slice A103_1 ((rd_T56 l0_1 x3_2).f1).length c103_1, .slice A103_2 ((rd_T56 l0_1 x3_2).f2).length c103_2] 56 (0, 0))) := ⟨by (with_reducible repeat (first | refine blk_drewN ?_ _ | refine blk_drew ?_ | refine blk_alloc ?_ _)); refine blk_put (cs := #[.string ((rd_T56 l0_1 x3_2).f0), .slice A103_1 ((rd_T56 l0_1 x3_2).f1).length c103_1, .slice none 0 0]) ?_ 2 _ rfl; (with_reducible repeat (first | refine blk_drewN ?_ _ | refine blk_drew ?_ | refine blk_alloc ?_ _)); refine blk_put (cs := #[.string ((rd_T56 l0_1 x3_2).f0), .slice none 0 0, .slice none 0 0]) ?_ 1 _ rfl; (with_reducible repeat (first | refine blk_drewN ?_ _ | refine blk_drew ?_ | refine blk_alloc ?_ _)); refine blk_put (cs := #[.string (⟨#[]⟩ : ByteArray), .slice none 0 0, .slice none 0 0]) ?_ 0 _ rfl; (with_reducible repeat (first | refine blk_drewN ?_ _ | refine blk_drew ?_ | refine blk_alloc ?_ _)); exact BK104.1⟩
               have n2_ : Aside0 (Below w.heap.size w (((w13.setCell ⟨gb104, 0, none⟩ (.string ((rd_T56 l0_1 x3_2).f0))).setCell ⟨gb104, 1, none⟩ (.slice A103_1 ((rd_T56 l0_1 x3_2).f1).length c103_1)).setCell ⟨gb104, 2, none⟩ (.slice A103_2 ((rd_T56 l0_1 x3_2).f2).length c103_2))) := ⟨pY29⟩
               (try clear BK101)
               (try clear BK104)
               (try clear HB)
               generalize (((w13.setCell ⟨gb104, 0, none⟩ (.string ((rd_T56 l0_1 x3_2).f0))).setCell ⟨gb104, 1, none⟩ (.slice A103_1 ((rd_T56 l0_1 x3_2).f1).length c103_1)).setCell ⟨gb104, 2, none⟩ (.slice A103_2 ((rd_T56 l0_1 x3_2).f2).length c103_2)) = w26 at n0_ n1_ n2_ ⊢
               have BK101 := n0_
               have BK104 := n1_
               have HB := n2_
               clear n0_ n1_ n2_
               have n0_ := Aside0.mk (blk_drew BK101.1)
               have n1_ := Aside0.mk (blk_drew BK104.1)
               have n2_ := Aside0.mk (below_drew1 HB.1)
               clear BK101
               clear BK104
               clear HB
               have BK101 := n0_
               have BK104 := n1_
               have HB := n2_
               clear n0_ n1_ n2_
               have p106 : 0 ≤ ((ji19) : Int) := of_decide_eq_true (pY50)
               have q106 : (ji19) < (l0_1.length : Int) := of_decide_eq_true (pY50)
               obtain ⟨ad106, A106_1, c106_1, A106_2, c106_2, e106, hx106_0, hx106_1, hx106_2, hl106_1, hi106_1, hl106_2, hi106_2⟩ := at_T56 HR0_1.1 (ji19) p106 q106
               have hw106_2 := hx106_2
               have hw106_1 := hx106_1
               have hw106_0 := hx106_0
               obtain rfl : ad103 = ad106 := (by injection e106)
               replace hx106_0 := (HB.1.cell (World.block_lt_of_cell? w _ hx106_0)).trans hx106_0
               replace hx106_1 := (HB.1.cell (World.block_lt_of_cell? w _ hx106_1)).trans hx106_1
               replace hx106_2 := (HB.1.cell (World.block_lt_of_cell? w _ hx106_2)).trans hx106_2
               have HR106_1 := Aside0.mk hi106_1
               have HC106_1 := Aside0.mk hl106_1
               clear hi106_1 hl106_1
               have HR106_2 := Aside0.mk hi106_2
               have HC106_2 := Aside0.mk hl106_2
               clear hi106_2 hl106_2
               replace p106 := eq_true p106
               replace q106 := eq_true q106
               refine start_ (n := 36) (S := fun w' => w'.cell? ⟨gb104, 0, none⟩ = some (.string ((rd_T56 l0_1 x3_2).f0)) ∧ w'.cell? ⟨gb104, 1, none⟩ = some (.slice A103_1 ((rd_T56 l0_1 x3_2).f1).length c103_1) ∧ w'.cell? ⟨gb104, 2, none⟩ = some (.slice A103_2 ((rd_T56 l0_1 x3_2).f2).length c103_2) ∧ w'.cell? ⟨gb101, 0, none⟩ = some (.slice A0_0 l0_0.length c0_0) ∧ w'.cell? ⟨gb101, 1, none⟩ = some (.slice (some ad103) l0_1.length c0_1) ∧ w'.cell? (ad103.add (((ji19)).toNat * 3)) = some (.string ((rd_T56 l0_1 (ji19)).f0)) ∧ w'.cell? ⟨(ad103.add (((ji19)).toNat * 3)).block, (ad103.add (((ji19)).toNat * 3)).off + 1, none⟩ = some (.slice A106_1 ((rd_T56 l0_1 (ji19)).f1).length c106_1) ∧ w'.cell? ⟨(ad103.add (((ji19)).toNat * 3)).block, (ad103.add (((ji19)).toNat * 3)).off + 2, none⟩ = some (.slice A106_2 ((rd_T56 l0_1 (ji19)).f2).length c106_2)) (ds := []) #[ff,ff,ff,ff,ff,ff,ff,ff,ff,ff,ff,ff,ff,ff,ff,ff,ff,ff,ff,ff,ff,ff,ff,ff,ff,ff,ff,ff,ff,ff,ff,ff,ff,ff,ff,ff] (by kernel_rfl) rfl rfl ⟨(blk_cell BK104.1 0).trans rfl, (blk_cell BK104.1 1).trans rfl, (blk_cell BK104.1 2).trans rfl, (blk_cell BK101.1 0).trans rfl, (blk_cell BK101.1 1).trans rfl, ((HB.1.cell (World.block_lt_of_cell? w _ hw106_0)).trans hw106_0), ((HB.1.cell (World.block_lt_of_cell? w _ hw106_1)).trans hw106_1), ((HB.1.cell (World.block_lt_of_cell? w _ hw106_2)).trans hw106_2)⟩ (fun hHeld => ?_); refine with_tabW spec_ShareBookOk.tab7 spec_ShareBookOk.bits7 (fun HT_ HW_ => ?_)
               generalize w26.drew = w27 at BK101 BK104 HB HR106_1 HR106_2 hx106_0 hx106_1 hx106_2 hHeld ⊢
               refine pU (i := 0) (N := some 28) #[tt,ff,ff,ff,ff,ff,ff,ff,ff,ff,ff,ff,ff,ff,ff,ff,ff,ff,ff,ff,ff,ff,ff,ff,ff,ff,ff,ff,ff,ff,ff,ff,ff,ff,ff,ff] ?_
               refine tK8 (i := 1) (N := some 29) #[tt,tt,ff,ff,ff,ff,ff,ff,ff,ff,ff,ff,ff,ff,ff,ff,ff,ff,ff,ff,ff,ff,ff,ff,ff,ff,ff,ff,ff,ff,ff,ff,ff,ff,ff,ff] ?_
               refine one_ (i := 2) (N := some 30) #[tt,tt,tt,ff,ff,ff,ff,ff,ff,ff,ff,ff,ff,ff,ff,ff,ff,ff,ff,ff,ff,ff,ff,ff,ff,ff,ff,ff,ff,ff,ff,ff,ff,ff,ff,ff] rfl rfl (one_of HT_.out (by kernel_rfl)) (by decide) (fun K hK => ?_)
               refine goes_ Try.func70 (by kernel_rfl) rfl #[.string ((rd_T56 l0_1 x3_2).f0)] (by rfl) rfl rfl (pY36) ?_
               with_reducible refine (spec_l1NameOk.calls k2 ((rd_T56 l0_1 x3_2).f0) true _ A16.out).mono ?_
               rintro e w' ⟨rfl, ⟨nd, rfl⟩⟩
               refine ⟨_, rfl, ?_⟩
               refine hK.out _ _ ⟨(blk_cell BK104.1 0).trans rfl, (blk_cell BK104.1 1).trans rfl, (blk_cell BK104.1 2).trans rfl, (blk_cell BK101.1 0).trans rfl, (blk_cell BK101.1 1).trans rfl, ((HB.1.cell (World.block_lt_of_cell? w _ hw106_0)).trans hw106_0), ((HB.1.cell (World.block_lt_of_cell? w _ hw106_1)).trans hw106_1), ((HB.1.cell (World.block_lt_of_cell? w _ hw106_2)).trans hw106_2)⟩ (fun hHeld => ?_)
               clear hK K
               refine norm_ (a' := ?_) ?_ ?_
               rotate_left
               ·show Act.put _ (some 30) _ = _
                simp only [pW]
                rfl
               refine pU (i := 3) (N := some 31) #[tt,tt,tt,tt,ff,ff,ff,ff,ff,ff,ff,ff,ff,ff,ff,ff,ff,ff,ff,ff,ff,ff,ff,ff,ff,ff,ff,ff,ff,ff,ff,ff,ff,ff,ff,ff] ?_
               refine pU (i := 4) (N := some 32) #[tt,tt,tt,tt,tt,ff,ff,ff,ff,ff,ff,ff,ff,ff,ff,ff,ff,ff,ff,ff,ff,ff,ff,ff,ff,ff,ff,ff,ff,ff,ff,ff,ff,ff,ff,ff] ?_
               refine pU (i := 5) (N := some 33) #[tt,tt,tt,tt,tt,tt,ff,ff,ff,ff,ff,ff,ff,ff,ff,ff,ff,ff,ff,ff,ff,ff,ff,ff,ff,ff,ff,ff,ff,ff,ff,ff,ff,ff,ff,ff] ?_
               refine pU (i := 6) (N := some 34) #[tt,tt,tt,tt,tt,tt,tt,ff,ff,ff,ff,ff,ff,ff,ff,ff,ff,ff,ff,ff,ff,ff,ff,ff,ff,ff,ff,ff,ff,ff,ff,ff,ff,ff,ff,ff] ?_
               refine pU (i := 7) (N := some 35) #[tt,tt,tt,tt,tt,tt,tt,tt,ff,ff,ff,ff,ff,ff,ff,ff,ff,ff,ff,ff,ff,ff,ff,ff,ff,ff,ff,ff,ff,ff,ff,ff,ff,ff,ff,ff] ?_
               refine pU (i := 8) (N := some 36) #[tt,tt,tt,tt,tt,tt,tt,tt,tt,ff,ff,ff,ff,ff,ff,ff,ff,ff,ff,ff,ff,ff,ff,ff,ff,ff,ff,ff,ff,ff,ff,ff,ff,ff,ff,ff] ?_
               refine pU (i := 10) (N := some 38) #[tt,tt,tt,tt,tt,tt,tt,tt,tt,ff,tt,ff,ff,ff,ff,ff,ff,ff,ff,ff,ff,ff,ff,ff,ff,ff,ff,ff,ff,ff,ff,ff,ff,ff,ff,ff] ?_
               refine pU (i := 11) (N := some 39) #[tt,tt,tt,tt,tt,tt,tt,tt,tt,ff,tt,tt,ff,ff,ff,ff,ff,ff,ff,ff,ff,ff,ff,ff,ff,ff,ff,ff,ff,ff,ff,ff,ff,ff,ff,ff] ?_
               refine pU (i := 15) (N := some 43) #[tt,tt,tt,tt,tt,tt,tt,tt,tt,ff,tt,tt,ff,ff,ff,tt,ff,ff,ff,ff,ff,ff,ff,ff,ff,ff,ff,ff,ff,ff,ff,ff,ff,ff,ff,ff] ?_
               refine tK8 (i := 9) (N := some 37) #[tt,tt,tt,tt,tt,tt,tt,tt,tt,tt,tt,tt,ff,ff,ff,tt,ff,ff,ff,ff,ff,ff,ff,ff,ff,ff,ff,ff,ff,ff,ff,ff,ff,ff,ff,ff] ?_
               refine pU (i := 12) (N := some 40) #[tt,tt,tt,tt,tt,tt,tt,tt,tt,tt,tt,tt,tt,ff,ff,tt,ff,ff,ff,ff,ff,ff,ff,ff,ff,ff,ff,ff,ff,ff,ff,ff,ff,ff,ff,ff] ?_
               refine pU (i := 13) (N := some 41) #[tt,tt,tt,tt,tt,tt,tt,tt,tt,tt,tt,tt,tt,tt,ff,tt,ff,ff,ff,ff,ff,ff,ff,ff,ff,ff,ff,ff,ff,ff,ff,ff,ff,ff,ff,ff] ?_
               refine tK8 (i := 14) (N := some 42) #[tt,tt,tt,tt,tt,tt,tt,tt,tt,tt,tt,tt,tt,tt,tt,tt,ff,ff,ff,ff,ff,ff,ff,ff,ff,ff,ff,ff,ff,ff,ff,ff,ff,ff,ff,ff] ?_
               refine tK8 (i := 16) (N := some 44) #[tt,tt,tt,tt,tt,tt,tt,tt,tt,tt,tt,tt,tt,tt,tt,tt,tt,ff,ff,ff,ff,ff,ff,ff,ff,ff,ff,ff,ff,ff,ff,ff,ff,ff,ff,ff] ?_
               refine pU (i := 17) (N := some 45) #[tt,tt,tt,tt,tt,tt,tt,tt,tt,tt,tt,tt,tt,tt,tt,tt,tt,tt,ff,ff,ff,ff,ff,ff,ff,ff,ff,ff,ff,ff,ff,ff,ff,ff,ff,ff] ?_
               refine pU (i := 18) (N := some 46) #[tt,tt,tt,tt,tt,tt,tt,tt,tt,tt,tt,tt,tt,tt,tt,tt,tt,tt,tt,ff,ff,ff,ff,ff,ff,ff,ff,ff,ff,ff,ff,ff,ff,ff,ff,ff] ?_
               refine pU (i := 19) (N := some 47) #[tt,tt,tt,tt,tt,tt,tt,tt,tt,tt,tt,tt,tt,tt,tt,tt,tt,tt,tt,tt,ff,ff,ff,ff,ff,ff,ff,ff,ff,ff,ff,ff,ff,ff,ff,ff] ?_
               refine pU (i := 20) (N := some 48) #[tt,tt,tt,tt,tt,tt,tt,tt,tt,tt,tt,tt,tt,tt,tt,tt,tt,tt,tt,tt,tt,ff,ff,ff,ff,ff,ff,ff,ff,ff,ff,ff,ff,ff,ff,ff] ?_
               refine pU (i := 21) (N := some 49) #[tt,tt,tt,tt,tt,tt,tt,tt,tt,tt,tt,tt,tt,tt,tt,tt,tt,tt,tt,tt,tt,tt,ff,ff,ff,ff,ff,ff,ff,ff,ff,ff,ff,ff,ff,ff] ?_
               refine pU (i := 23) (N := some 51) #[tt,tt,tt,tt,tt,tt,tt,tt,tt,tt,tt,tt,tt,tt,tt,tt,tt,tt,tt,tt,tt,tt,ff,tt,ff,ff,ff,ff,ff,ff,ff,ff,ff,ff,ff,ff] ?_
               refine tK8 (i := 22) (N := some 50) #[tt,tt,tt,tt,tt,tt,tt,tt,tt,tt,tt,tt,tt,tt,tt,tt,tt,tt,tt,tt,tt,tt,tt,tt,ff,ff,ff,ff,ff,ff,ff,ff,ff,ff,ff,ff] ?_
               refine tK8 (i := 24) (N := some 52) #[tt,tt,tt,tt,tt,tt,tt,tt,tt,tt,tt,tt,tt,tt,tt,tt,tt,tt,tt,tt,tt,tt,tt,tt,tt,ff,ff,ff,ff,ff,ff,ff,ff,ff,ff,ff] ?_
               refine one_ (i := 25) (N := some 53) #[tt,tt,tt,tt,tt,tt,tt,tt,tt,tt,tt,tt,tt,tt,tt,tt,tt,tt,tt,tt,tt,tt,tt,tt,tt,tt,ff,ff,ff,ff,ff,ff,ff,ff,ff,ff] rfl rfl (one_of HT_.out (by kernel_rfl)) (by decide) (fun K hK => ?_)
               refine goes_ Try.func71 (by kernel_rfl) rfl #[.slice A103_2 ((rd_T56 l0_1 x3_2).f2).length c103_2, .slice A0_0 l0_0.length c0_0] (by rfl) rfl rfl (pY36) ?_
               with_reducible refine (spec_l1NamesOk.calls k2 _ _ ((rd_T56 l0_1 x3_2).f2) _ _ l0_0 true _ ?side1 ?side2 ?side3 ?side4 A23.out).mono ?_
               (case side1 => exact pC (Kd.C_below HR103_2.1 (pY29)))
               (case side2 => exact HC103_2.1)
               (case side3 => exact pC (Kd.C_below HR0_0.1 (pY29)))
               (case side4 => exact HC0_0.1)
               rintro e w' ⟨rfl, ⟨nd, rfl⟩⟩
               refine ⟨_, rfl, ?_⟩
               refine hK.out _ _ ⟨(blk_cell BK104.1 0).trans rfl, (blk_cell BK104.1 1).trans rfl, (blk_cell BK104.1 2).trans rfl, (blk_cell BK101.1 0).trans rfl, (blk_cell BK101.1 1).trans rfl, ((HB.1.cell (World.block_lt_of_cell? w _ hw106_0)).trans hw106_0), ((HB.1.cell (World.block_lt_of_cell? w _ hw106_1)).trans hw106_1), ((HB.1.cell (World.block_lt_of_cell? w _ hw106_2)).trans hw106_2)⟩ (fun hHeld => ?_)
               clear hK K
               refine norm_ (a' := ?_) ?_ ?_
               rotate_left
               ·show Act.put _ (some 53) _ = _
                simp only [pW]
                rfl
               refine pU (i := 26) (N := some 54) #[tt,tt,tt,tt,tt,tt,tt,tt,tt,tt,tt,tt,tt,tt,tt,tt,tt,tt,tt,tt,tt,tt,tt,tt,tt,tt,tt,ff,ff,ff,ff,ff,ff,ff,ff,ff] ?_
               refine pU (i := 27) (N := some 55) #[tt,tt,tt,tt,tt,tt,tt,tt,tt,tt,tt,tt,tt,tt,tt,tt,tt,tt,tt,tt,tt,tt,tt,tt,tt,tt,tt,tt,ff,ff,ff,ff,ff,ff,ff,ff] ?_
               refine pU (i := 28) (N := some 56) #[tt,tt,tt,tt,tt,tt,tt,tt,tt,tt,tt,tt,tt,tt,tt,tt,tt,tt,tt,tt,tt,tt,tt,tt,tt,tt,tt,tt,tt,ff,ff,ff,ff,ff,ff,ff] ?_
               refine pU (i := 29) (N := some 57) #[tt,tt,tt,tt,tt,tt,tt,tt,tt,tt,tt,tt,tt,tt,tt,tt,tt,tt,tt,tt,tt,tt,tt,tt,tt,tt,tt,tt,tt,tt,ff,ff,ff,ff,ff,ff] ?_
               refine pU (i := 31) (N := some 59) #[tt,tt,tt,tt,tt,tt,tt,tt,tt,tt,tt,tt,tt,tt,tt,tt,tt,tt,tt,tt,tt,tt,tt,tt,tt,tt,tt,tt,tt,tt,ff,tt,ff,ff,ff,ff] ?_
               refine tK8 (i := 30) (N := some 58) #[tt,tt,tt,tt,tt,tt,tt,tt,tt,tt,tt,tt,tt,tt,tt,tt,tt,tt,tt,tt,tt,tt,tt,tt,tt,tt,tt,tt,tt,tt,tt,tt,ff,ff,ff,ff] ?_
               refine tK8 (i := 32) (N := some 60) #[tt,tt,tt,tt,tt,tt,tt,tt,tt,tt,tt,tt,tt,tt,tt,tt,tt,tt,tt,tt,tt,tt,tt,tt,tt,tt,tt,tt,tt,tt,tt,tt,tt,ff,ff,ff] ?_
               refine one_ (i := 33) (N := some 61) #[tt,tt,tt,tt,tt,tt,tt,tt,tt,tt,tt,tt,tt,tt,tt,tt,tt,tt,tt,tt,tt,tt,tt,tt,tt,tt,tt,tt,tt,tt,tt,tt,tt,tt,ff,ff] rfl rfl (one_of HT_.out (by kernel_rfl)) (by decide) (fun K hK => ?_)
               refine goes_ Try.func71 (by kernel_rfl) rfl #[.slice A103_1 ((rd_T56 l0_1 x3_2).f1).length c103_1, .slice A103_2 ((rd_T56 l0_1 x3_2).f2).length c103_2] (by rfl) rfl rfl (pY36) ?_
               with_reducible refine (spec_l1NamesOk.calls k2 _ _ ((rd_T56 l0_1 x3_2).f1) _ _ ((rd_T56 l0_1 x3_2).f2) t108 _ ?side1 ?side2 ?side3 ?side4 A25.out).mono ?_
               (case side1 => exact pC (Kd.C_below HR103_1.1 (pY29)))
               (case side2 => exact HC103_1.1)
               (case side3 => exact pC (Kd.C_below HR103_2.1 (pY29)))
               (case side4 => exact HC103_2.1)
               rintro e w' ⟨rfl, ⟨nd, rfl⟩⟩
               refine ⟨_, rfl, ?_⟩
               refine hK.out _ _ ⟨(blk_cell BK104.1 0).trans rfl, (blk_cell BK104.1 1).trans rfl, (blk_cell BK104.1 2).trans rfl, (blk_cell BK101.1 0).trans rfl, (blk_cell BK101.1 1).trans rfl, ((HB.1.cell (World.block_lt_of_cell? w _ hw106_0)).trans hw106_0), ((HB.1.cell (World.block_lt_of_cell? w _ hw106_1)).trans hw106_1), ((HB.1.cell (World.block_lt_of_cell? w _ hw106_2)).trans hw106_2)⟩ (fun hHeld => ?_)
               clear hK K
               refine norm_ (a' := ?_) ?_ ?_
               rotate_left
               ·show Act.put _ (some 61) _ = _
                simp only [pW]
                rfl
               refine pU (i := 34) (N := some 62) #[tt,tt,tt,tt,tt,tt,tt,tt,tt,tt,tt,tt,tt,tt,tt,tt,tt,tt,tt,tt,tt,tt,tt,tt,tt,tt,tt,tt,tt,tt,tt,tt,tt,tt,tt,ff] ?_
               refine pU (i := 35) (N := some 63) #[tt,tt,tt,tt,tt,tt,tt,tt,tt,tt,tt,tt,tt,tt,tt,tt,tt,tt,tt,tt,tt,tt,tt,tt,tt,tt,tt,tt,tt,tt,tt,tt,tt,tt,tt,tt] ?_
               refine done_ (done_of HT_.out (by kernel_rfl)) ?_
               try go_wp2
               go_meet
               case rel => exact ⟨_, (!t108), (pY51), H', ⟨by have := HJ1.out; have := HK2.out; first | omega | exact Nat.le_refl _⟩, ⟨by (with_reducible repeat (first | refine blk_drewN ?_ _ | refine blk_drew ?_ | refine blk_alloc ?_ _)); exact BK101.1⟩, ⟨by (with_reducible repeat (first | refine blk_drewN ?_ _ | refine blk_drew ?_ | refine blk_alloc ?_ _)); exact BK104.1⟩, ⟨pY29⟩⟩
              ·replace c24 := Bool.eq_false_iff.mpr c24
               subst c24
               have H1 : (spec_ShareBookOk.j2 k2 x3_2 true l0_0 l0_1 ((rd_T56 l0_1 x3_2).f0) ((rd_T56 l0_1 x3_2).f1) ((rd_T56 l0_1 x3_2).f2)) = some r := by rw [if_neg (show ¬ (false = true) by decide)] at H; exact H
               clear H
               have H := H1
               clear H1
               have H' := Aside0.mk H
               clear H
               try go_wp2
               have n0_ : Aside0 ((((w13.setCell ⟨gb104, 0, none⟩ (.string ((rd_T56 l0_1 x3_2).f0))).setCell ⟨gb104, 1, none⟩ (.slice A103_1 ((rd_T56 l0_1 x3_2).f1).length c103_1)).setCell ⟨gb104, 2, none⟩ (.slice A103_2 ((rd_T56 l0_1 x3_2).f2).length c103_2)).heap[gb101]? = some (.cells #[.slice A0_0 l0_0.length c0_0, .slice (some ad103) l0_1.length c0_1] 31 (0, 0))) := ⟨by (with_reducible repeat (first | refine blk_drewN ?_ _ | refine blk_drew ?_ | refine blk_alloc ?_ _)); refine blk_far ?_ NB101_104.1 _; (with_reducible repeat (first | refine blk_drewN ?_ _ | refine blk_drew ?_ | refine blk_alloc ?_ _)); refine blk_far ?_ NB101_104.1 _; (with_reducible repeat (first | refine blk_drewN ?_ _ | refine blk_drew ?_ | refine blk_alloc ?_ _)); refine blk_far ?_ NB101_104.1 _; (with_reducible repeat (first | refine blk_drewN ?_ _ | refine blk_drew ?_ | refine blk_alloc ?_ _)); exact BK101.1⟩
               have n1_ : Aside0 ((((w13.setCell ⟨gb104, 0, none⟩ (.string ((rd_T56 l0_1 x3_2).f0))).setCell ⟨gb104, 1, none⟩ (.slice A103_1 ((rd_T56 l0_1 x3_2).f1).length c103_1)).setCell ⟨gb104, 2, none⟩ (.slice A103_2 ((rd_T56 l0_1 x3_2).f2).length c103_2)).heap[gb104]? = some (.cells #[.string ((rd_T56 l0_1 x3_2).f0), .slice A103_1 ((rd_T56 l0_1 x3_2).f1).length c103_1, .slice A103_2 ((rd_T56 l0_1 x3_2).f2).length c103_2] 56 (0, 0))) := ⟨by (with_reducible repeat (first | refine blk_drewN ?_ _ | refine blk_drew ?_ | refine blk_alloc ?_ _)); refine blk_put (cs := #[.string ((rd_T56 l0_1 x3_2).f0), .slice A103_1 ((rd_T56 l0_1 x3_2).f1).length c103_1, .slice none 0 0]) ?_ 2 _ rfl; (with_reducible repeat (first | refine blk_drewN ?_ _ | refine blk_drew ?_ | refine blk_alloc ?_ _)); refine blk_put (cs := #[.string ((rd_T56 l0_1 x3_2).f0), .slice none 0 0, .slice none 0 0]) ?_ 1 _ rfl; (with_reducible repeat (first | refine blk_drewN ?_ _ | refine blk_drew ?_ | refine blk_alloc ?_ _)); refine blk_put (cs := #[.string (⟨#[]⟩ : ByteArray), .slice none 0 0, .slice none 0 0]) ?_ 0 _ rfl; (with_reducible repeat (first | refine blk_drewN ?_ _ | refine blk_drew ?_ | refine blk_alloc ?_ _)); exact BK104.1⟩
               have n2_ : Aside0 (Below w.heap.size w (((w13.setCell ⟨gb104, 0, none⟩ (.string ((rd_T56 l0_1 x3_2).f0))).setCell ⟨gb104, 1, none⟩ (.slice A103_1 ((rd_T56 l0_1 x3_2).f1).length c103_1)).setCell ⟨gb104, 2, none⟩ (.slice A103_2 ((rd_T56 l0_1 x3_2).f2).length c103_2))) := ⟨pY29⟩
               (try clear BK101)
               (try clear BK104)
               (try clear HB)
               generalize (((w13.setCell ⟨gb104, 0, none⟩ (.string ((rd_T56 l0_1 x3_2).f0))).setCell ⟨gb104, 1, none⟩ (.slice A103_1 ((rd_T56 l0_1 x3_2).f1).length c103_1)).setCell ⟨gb104, 2, none⟩ (.slice A103_2 ((rd_T56 l0_1 x3_2).f2).length c103_2)) = w28 at n0_ n1_ n2_ ⊢
               have BK101 := n0_
               have BK104 := n1_
               have HB := n2_
               clear n0_ n1_ n2_
               have n0_ := Aside0.mk (blk_drew BK101.1)
               have n1_ := Aside0.mk (blk_drew BK104.1)
               have n2_ := Aside0.mk (below_drew1 HB.1)
               clear BK101
               clear BK104
               clear HB
               have BK101 := n0_
               have BK104 := n1_
               have HB := n2_
               clear n0_ n1_ n2_
               have p106 : 0 ≤ ((ji19) : Int) := of_decide_eq_true (pY50)
               have q106 : (ji19) < (l0_1.length : Int) := of_decide_eq_true (pY50)
               obtain ⟨ad106, A106_1, c106_1, A106_2, c106_2, e106, hx106_0, hx106_1, hx106_2, hl106_1, hi106_1, hl106_2, hi106_2⟩ := at_T56 HR0_1.1 (ji19) p106 q106
               have hw106_2 := hx106_2
               have hw106_1 := hx106_1
               have hw106_0 := hx106_0
               obtain rfl : ad103 = ad106 := (by injection e106)
               replace hx106_0 := (HB.1.cell (World.block_lt_of_cell? w _ hx106_0)).trans hx106_0
               replace hx106_1 := (HB.1.cell (World.block_lt_of_cell? w _ hx106_1)).trans hx106_1
               replace hx106_2 := (HB.1.cell (World.block_lt_of_cell? w _ hx106_2)).trans hx106_2
               have HR106_1 := Aside0.mk hi106_1
               have HC106_1 := Aside0.mk hl106_1
               clear hi106_1 hl106_1
               have HR106_2 := Aside0.mk hi106_2
               have HC106_2 := Aside0.mk hl106_2
               clear hi106_2 hl106_2
               replace p106 := eq_true p106
               replace q106 := eq_true q106
               refine start_ (n := 36) (S := fun w' => w'.cell? ⟨gb104, 0, none⟩ = some (.string ((rd_T56 l0_1 x3_2).f0)) ∧ w'.cell? ⟨gb104, 1, none⟩ = some (.slice A103_1 ((rd_T56 l0_1 x3_2).f1).length c103_1) ∧ w'.cell? ⟨gb104, 2, none⟩ = some (.slice A103_2 ((rd_T56 l0_1 x3_2).f2).length c103_2) ∧ w'.cell? ⟨gb101, 0, none⟩ = some (.slice A0_0 l0_0.length c0_0) ∧ w'.cell? ⟨gb101, 1, none⟩ = some (.slice (some ad103) l0_1.length c0_1) ∧ w'.cell? (ad103.add (((ji19)).toNat * 3)) = some (.string ((rd_T56 l0_1 (ji19)).f0)) ∧ w'.cell? ⟨(ad103.add (((ji19)).toNat * 3)).block, (ad103.add (((ji19)).toNat * 3)).off + 1, none⟩ = some (.slice A106_1 ((rd_T56 l0_1 (ji19)).f1).length c106_1) ∧ w'.cell? ⟨(ad103.add (((ji19)).toNat * 3)).block, (ad103.add (((ji19)).toNat * 3)).off + 2, none⟩ = some (.slice A106_2 ((rd_T56 l0_1 (ji19)).f2).length c106_2)) (ds := []) #[ff,ff,ff,ff,ff,ff,ff,ff,ff,ff,ff,ff,ff,ff,ff,ff,ff,ff,ff,ff,ff,ff,ff,ff,ff,ff,ff,ff,ff,ff,ff,ff,ff,ff,ff,ff] (by kernel_rfl) rfl rfl ⟨(blk_cell BK104.1 0).trans rfl, (blk_cell BK104.1 1).trans rfl, (blk_cell BK104.1 2).trans rfl, (blk_cell BK101.1 0).trans rfl, (blk_cell BK101.1 1).trans rfl, ((HB.1.cell (World.block_lt_of_cell? w _ hw106_0)).trans hw106_0), ((HB.1.cell (World.block_lt_of_cell? w _ hw106_1)).trans hw106_1), ((HB.1.cell (World.block_lt_of_cell? w _ hw106_2)).trans hw106_2)⟩ (fun hHeld => ?_); refine with_tabW spec_ShareBookOk.tab7 spec_ShareBookOk.bits7 (fun HT_ HW_ => ?_)
               generalize w28.drew = w29 at BK101 BK104 HB HR106_1 HR106_2 hx106_0 hx106_1 hx106_2 hHeld ⊢
               refine pU (i := 0) (N := some 28) #[tt,ff,ff,ff,ff,ff,ff,ff,ff,ff,ff,ff,ff,ff,ff,ff,ff,ff,ff,ff,ff,ff,ff,ff,ff,ff,ff,ff,ff,ff,ff,ff,ff,ff,ff,ff] ?_
               refine tK8 (i := 1) (N := some 29) #[tt,tt,ff,ff,ff,ff,ff,ff,ff,ff,ff,ff,ff,ff,ff,ff,ff,ff,ff,ff,ff,ff,ff,ff,ff,ff,ff,ff,ff,ff,ff,ff,ff,ff,ff,ff] ?_
               refine one_ (i := 2) (N := some 30) #[tt,tt,tt,ff,ff,ff,ff,ff,ff,ff,ff,ff,ff,ff,ff,ff,ff,ff,ff,ff,ff,ff,ff,ff,ff,ff,ff,ff,ff,ff,ff,ff,ff,ff,ff,ff] rfl rfl (one_of HT_.out (by kernel_rfl)) (by decide) (fun K hK => ?_)
               refine goes_ Try.func70 (by kernel_rfl) rfl #[.string ((rd_T56 l0_1 x3_2).f0)] (by rfl) rfl rfl (pY36) ?_
               with_reducible refine (spec_l1NameOk.calls k2 ((rd_T56 l0_1 x3_2).f0) true _ A16.out).mono ?_
               rintro e w' ⟨rfl, ⟨nd, rfl⟩⟩
               refine ⟨_, rfl, ?_⟩
               refine hK.out _ _ ⟨(blk_cell BK104.1 0).trans rfl, (blk_cell BK104.1 1).trans rfl, (blk_cell BK104.1 2).trans rfl, (blk_cell BK101.1 0).trans rfl, (blk_cell BK101.1 1).trans rfl, ((HB.1.cell (World.block_lt_of_cell? w _ hw106_0)).trans hw106_0), ((HB.1.cell (World.block_lt_of_cell? w _ hw106_1)).trans hw106_1), ((HB.1.cell (World.block_lt_of_cell? w _ hw106_2)).trans hw106_2)⟩ (fun hHeld => ?_)
               clear hK K
               refine norm_ (a' := ?_) ?_ ?_
               rotate_left
               ·show Act.put _ (some 30) _ = _
                simp only [pW]
                rfl
               refine pU (i := 3) (N := some 31) #[tt,tt,tt,tt,ff,ff,ff,ff,ff,ff,ff,ff,ff,ff,ff,ff,ff,ff,ff,ff,ff,ff,ff,ff,ff,ff,ff,ff,ff,ff,ff,ff,ff,ff,ff,ff] ?_
               refine pU (i := 4) (N := some 32) #[tt,tt,tt,tt,tt,ff,ff,ff,ff,ff,ff,ff,ff,ff,ff,ff,ff,ff,ff,ff,ff,ff,ff,ff,ff,ff,ff,ff,ff,ff,ff,ff,ff,ff,ff,ff] ?_
               refine pU (i := 5) (N := some 33) #[tt,tt,tt,tt,tt,tt,ff,ff,ff,ff,ff,ff,ff,ff,ff,ff,ff,ff,ff,ff,ff,ff,ff,ff,ff,ff,ff,ff,ff,ff,ff,ff,ff,ff,ff,ff] ?_
               refine pU (i := 6) (N := some 34) #[tt,tt,tt,tt,tt,tt,tt,ff,ff,ff,ff,ff,ff,ff,ff,ff,ff,ff,ff,ff,ff,ff,ff,ff,ff,ff,ff,ff,ff,ff,ff,ff,ff,ff,ff,ff] ?_
               refine pU (i := 7) (N := some 35) #[tt,tt,tt,tt,tt,tt,tt,tt,ff,ff,ff,ff,ff,ff,ff,ff,ff,ff,ff,ff,ff,ff,ff,ff,ff,ff,ff,ff,ff,ff,ff,ff,ff,ff,ff,ff] ?_
               refine pU (i := 8) (N := some 36) #[tt,tt,tt,tt,tt,tt,tt,tt,tt,ff,ff,ff,ff,ff,ff,ff,ff,ff,ff,ff,ff,ff,ff,ff,ff,ff,ff,ff,ff,ff,ff,ff,ff,ff,ff,ff] ?_
               refine pU (i := 10) (N := some 38) #[tt,tt,tt,tt,tt,tt,tt,tt,tt,ff,tt,ff,ff,ff,ff,ff,ff,ff,ff,ff,ff,ff,ff,ff,ff,ff,ff,ff,ff,ff,ff,ff,ff,ff,ff,ff] ?_
               refine pU (i := 11) (N := some 39) #[tt,tt,tt,tt,tt,tt,tt,tt,tt,ff,tt,tt,ff,ff,ff,ff,ff,ff,ff,ff,ff,ff,ff,ff,ff,ff,ff,ff,ff,ff,ff,ff,ff,ff,ff,ff] ?_
               refine pU (i := 15) (N := some 43) #[tt,tt,tt,tt,tt,tt,tt,tt,tt,ff,tt,tt,ff,ff,ff,tt,ff,ff,ff,ff,ff,ff,ff,ff,ff,ff,ff,ff,ff,ff,ff,ff,ff,ff,ff,ff] ?_
               refine tK8 (i := 9) (N := some 37) #[tt,tt,tt,tt,tt,tt,tt,tt,tt,tt,tt,tt,ff,ff,ff,tt,ff,ff,ff,ff,ff,ff,ff,ff,ff,ff,ff,ff,ff,ff,ff,ff,ff,ff,ff,ff] ?_
               refine pU (i := 12) (N := some 40) #[tt,tt,tt,tt,tt,tt,tt,tt,tt,tt,tt,tt,tt,ff,ff,tt,ff,ff,ff,ff,ff,ff,ff,ff,ff,ff,ff,ff,ff,ff,ff,ff,ff,ff,ff,ff] ?_
               refine pU (i := 13) (N := some 41) #[tt,tt,tt,tt,tt,tt,tt,tt,tt,tt,tt,tt,tt,tt,ff,tt,ff,ff,ff,ff,ff,ff,ff,ff,ff,ff,ff,ff,ff,ff,ff,ff,ff,ff,ff,ff] ?_
               refine tK8 (i := 14) (N := some 42) #[tt,tt,tt,tt,tt,tt,tt,tt,tt,tt,tt,tt,tt,tt,tt,tt,ff,ff,ff,ff,ff,ff,ff,ff,ff,ff,ff,ff,ff,ff,ff,ff,ff,ff,ff,ff] ?_
               refine tK8 (i := 16) (N := some 44) #[tt,tt,tt,tt,tt,tt,tt,tt,tt,tt,tt,tt,tt,tt,tt,tt,tt,ff,ff,ff,ff,ff,ff,ff,ff,ff,ff,ff,ff,ff,ff,ff,ff,ff,ff,ff] ?_
               refine pU (i := 17) (N := some 45) #[tt,tt,tt,tt,tt,tt,tt,tt,tt,tt,tt,tt,tt,tt,tt,tt,tt,tt,ff,ff,ff,ff,ff,ff,ff,ff,ff,ff,ff,ff,ff,ff,ff,ff,ff,ff] ?_
               refine pU (i := 18) (N := some 46) #[tt,tt,tt,tt,tt,tt,tt,tt,tt,tt,tt,tt,tt,tt,tt,tt,tt,tt,tt,ff,ff,ff,ff,ff,ff,ff,ff,ff,ff,ff,ff,ff,ff,ff,ff,ff] ?_
               refine pU (i := 19) (N := some 47) #[tt,tt,tt,tt,tt,tt,tt,tt,tt,tt,tt,tt,tt,tt,tt,tt,tt,tt,tt,tt,ff,ff,ff,ff,ff,ff,ff,ff,ff,ff,ff,ff,ff,ff,ff,ff] ?_
               refine pU (i := 20) (N := some 48) #[tt,tt,tt,tt,tt,tt,tt,tt,tt,tt,tt,tt,tt,tt,tt,tt,tt,tt,tt,tt,tt,ff,ff,ff,ff,ff,ff,ff,ff,ff,ff,ff,ff,ff,ff,ff] ?_
               refine pU (i := 21) (N := some 49) #[tt,tt,tt,tt,tt,tt,tt,tt,tt,tt,tt,tt,tt,tt,tt,tt,tt,tt,tt,tt,tt,tt,ff,ff,ff,ff,ff,ff,ff,ff,ff,ff,ff,ff,ff,ff] ?_
               refine pU (i := 23) (N := some 51) #[tt,tt,tt,tt,tt,tt,tt,tt,tt,tt,tt,tt,tt,tt,tt,tt,tt,tt,tt,tt,tt,tt,ff,tt,ff,ff,ff,ff,ff,ff,ff,ff,ff,ff,ff,ff] ?_
               refine tK8 (i := 22) (N := some 50) #[tt,tt,tt,tt,tt,tt,tt,tt,tt,tt,tt,tt,tt,tt,tt,tt,tt,tt,tt,tt,tt,tt,tt,tt,ff,ff,ff,ff,ff,ff,ff,ff,ff,ff,ff,ff] ?_
               refine tK8 (i := 24) (N := some 52) #[tt,tt,tt,tt,tt,tt,tt,tt,tt,tt,tt,tt,tt,tt,tt,tt,tt,tt,tt,tt,tt,tt,tt,tt,tt,ff,ff,ff,ff,ff,ff,ff,ff,ff,ff,ff] ?_
               refine one_ (i := 25) (N := some 53) #[tt,tt,tt,tt,tt,tt,tt,tt,tt,tt,tt,tt,tt,tt,tt,tt,tt,tt,tt,tt,tt,tt,tt,tt,tt,tt,ff,ff,ff,ff,ff,ff,ff,ff,ff,ff] rfl rfl (one_of HT_.out (by kernel_rfl)) (by decide) (fun K hK => ?_)
               refine goes_ Try.func71 (by kernel_rfl) rfl #[.slice A103_2 ((rd_T56 l0_1 x3_2).f2).length c103_2, .slice A0_0 l0_0.length c0_0] (by rfl) rfl rfl (pY36) ?_
               with_reducible refine (spec_l1NamesOk.calls k2 _ _ ((rd_T56 l0_1 x3_2).f2) _ _ l0_0 false _ ?side1 ?side2 ?side3 ?side4 A23.out).mono ?_
               (case side1 => exact pC (Kd.C_below HR103_2.1 (pY29)))
               (case side2 => exact HC103_2.1)
               (case side3 => exact pC (Kd.C_below HR0_0.1 (pY29)))
               (case side4 => exact HC0_0.1)
               rintro e w' ⟨rfl, ⟨nd, rfl⟩⟩
               refine ⟨_, rfl, ?_⟩
               refine hK.out _ _ ⟨(blk_cell BK104.1 0).trans rfl, (blk_cell BK104.1 1).trans rfl, (blk_cell BK104.1 2).trans rfl, (blk_cell BK101.1 0).trans rfl, (blk_cell BK101.1 1).trans rfl, ((HB.1.cell (World.block_lt_of_cell? w _ hw106_0)).trans hw106_0), ((HB.1.cell (World.block_lt_of_cell? w _ hw106_1)).trans hw106_1), ((HB.1.cell (World.block_lt_of_cell? w _ hw106_2)).trans hw106_2)⟩ (fun hHeld => ?_)
               clear hK K
               refine norm_ (a' := ?_) ?_ ?_
               rotate_left
               ·show Act.put _ (some 53) _ = _
                simp only [pW]
                rfl
               refine pU (i := 26) (N := some 54) #[tt,tt,tt,tt,tt,tt,tt,tt,tt,tt,tt,tt,tt,tt,tt,tt,tt,tt,tt,tt,tt,tt,tt,tt,tt,tt,tt,ff,ff,ff,ff,ff,ff,ff,ff,ff] ?_
               refine pU (i := 27) (N := some 55) #[tt,tt,tt,tt,tt,tt,tt,tt,tt,tt,tt,tt,tt,tt,tt,tt,tt,tt,tt,tt,tt,tt,tt,tt,tt,tt,tt,tt,ff,ff,ff,ff,ff,ff,ff,ff] ?_
               refine pU (i := 28) (N := some 56) #[tt,tt,tt,tt,tt,tt,tt,tt,tt,tt,tt,tt,tt,tt,tt,tt,tt,tt,tt,tt,tt,tt,tt,tt,tt,tt,tt,tt,tt,ff,ff,ff,ff,ff,ff,ff] ?_
               refine pV (i := 29) (N := some 57) #[tt,tt,tt,tt,tt,tt,tt,tt,tt,tt,tt,tt,tt,tt,tt,tt,tt,tt,tt,tt,tt,tt,tt,tt,tt,tt,tt,tt,tt,tt,ff,ff,ff,ff,ff,ff] ?_
               refine pV (i := 30) (N := some 58) #[tt,tt,tt,tt,tt,tt,tt,tt,tt,tt,tt,tt,tt,tt,tt,tt,tt,tt,tt,tt,tt,tt,tt,tt,tt,tt,tt,tt,tt,tt,tt,ff,ff,ff,ff,ff] ?_
               refine pV (i := 31) (N := some 59) #[tt,tt,tt,tt,tt,tt,tt,tt,tt,tt,tt,tt,tt,tt,tt,tt,tt,tt,tt,tt,tt,tt,tt,tt,tt,tt,tt,tt,tt,tt,tt,tt,ff,ff,ff,ff] ?_
               refine pV (i := 32) (N := some 60) #[tt,tt,tt,tt,tt,tt,tt,tt,tt,tt,tt,tt,tt,tt,tt,tt,tt,tt,tt,tt,tt,tt,tt,tt,tt,tt,tt,tt,tt,tt,tt,tt,tt,ff,ff,ff] ?_
               refine pV (i := 33) (N := some 61) #[tt,tt,tt,tt,tt,tt,tt,tt,tt,tt,tt,tt,tt,tt,tt,tt,tt,tt,tt,tt,tt,tt,tt,tt,tt,tt,tt,tt,tt,tt,tt,tt,tt,tt,ff,ff] ?_
               refine pV (i := 34) (N := some 62) #[tt,tt,tt,tt,tt,tt,tt,tt,tt,tt,tt,tt,tt,tt,tt,tt,tt,tt,tt,tt,tt,tt,tt,tt,tt,tt,tt,tt,tt,tt,tt,tt,tt,tt,tt,ff] ?_
               refine pU (i := 35) (N := some 63) #[tt,tt,tt,tt,tt,tt,tt,tt,tt,tt,tt,tt,tt,tt,tt,tt,tt,tt,tt,tt,tt,tt,tt,tt,tt,tt,tt,tt,tt,tt,tt,tt,tt,tt,tt,tt] ?_
               refine done_ (done_of HT_.out (by kernel_rfl)) ?_
               try go_wp2
               go_meet
               case rel => exact ⟨_, (true), (pY51), H', ⟨by have := HJ1.out; have := HK2.out; first | omega | exact Nat.le_refl _⟩, ⟨by (with_reducible repeat (first | refine blk_drewN ?_ _ | refine blk_drew ?_ | refine blk_alloc ?_ _)); exact BK101.1⟩, ⟨by (with_reducible repeat (first | refine blk_drewN ?_ _ | refine blk_drew ?_ | refine blk_alloc ?_ _)); exact BK104.1⟩, ⟨pY29⟩⟩
             ·rw [if_neg c22] at H
              have c22b0 : (Op.bytesLess (((rd_T56 l0_1 (ji19)).f0).toList) (((rd_T56 l0_1 x3_2).f0).toList)) = false := by simpa using c22
              clear c22
              have H' := Aside0.mk H
              clear H
              try go_wp2
              have n0_ : Aside0 ((((w13.setCell ⟨gb104, 0, none⟩ (.string ((rd_T56 l0_1 x3_2).f0))).setCell ⟨gb104, 1, none⟩ (.slice A103_1 ((rd_T56 l0_1 x3_2).f1).length c103_1)).setCell ⟨gb104, 2, none⟩ (.slice A103_2 ((rd_T56 l0_1 x3_2).f2).length c103_2)).heap[gb101]? = some (.cells #[.slice A0_0 l0_0.length c0_0, .slice (some ad103) l0_1.length c0_1] 31 (0, 0))) := ⟨by (with_reducible repeat (first | refine blk_drewN ?_ _ | refine blk_drew ?_ | refine blk_alloc ?_ _)); refine blk_far ?_ NB101_104.1 _; (with_reducible repeat (first | refine blk_drewN ?_ _ | refine blk_drew ?_ | refine blk_alloc ?_ _)); refine blk_far ?_ NB101_104.1 _; (with_reducible repeat (first | refine blk_drewN ?_ _ | refine blk_drew ?_ | refine blk_alloc ?_ _)); refine blk_far ?_ NB101_104.1 _; (with_reducible repeat (first | refine blk_drewN ?_ _ | refine blk_drew ?_ | refine blk_alloc ?_ _)); exact BK101.1⟩
              have n1_ : Aside0 ((((w13.setCell ⟨gb104, 0, none⟩ (.string ((rd_T56 l0_1 x3_2).f0))).setCell ⟨gb104, 1, none⟩ (.slice A103_1 ((rd_T56 l0_1 x3_2).f1).length c103_1)).setCell ⟨gb104, 2, none⟩ (.slice A103_2 ((rd_T56 l0_1 x3_2).f2).length c103_2)).heap[gb104]? = some (.cells #[.string ((rd_T56 l0_1 x3_2).f0), .slice A103_1 ((rd_T56 l0_1 x3_2).f1).length c103_1, .slice A103_2 ((rd_T56 l0_1 x3_2).f2).length c103_2] 56 (0, 0))) := ⟨by (with_reducible repeat (first | refine blk_drewN ?_ _ | refine blk_drew ?_ | refine blk_alloc ?_ _)); refine blk_put (cs := #[.string ((rd_T56 l0_1 x3_2).f0), .slice A103_1 ((rd_T56 l0_1 x3_2).f1).length c103_1, .slice none 0 0]) ?_ 2 _ rfl; (with_reducible repeat (first | refine blk_drewN ?_ _ | refine blk_drew ?_ | refine blk_alloc ?_ _)); refine blk_put (cs := #[.string ((rd_T56 l0_1 x3_2).f0), .slice none 0 0, .slice none 0 0]) ?_ 1 _ rfl; (with_reducible repeat (first | refine blk_drewN ?_ _ | refine blk_drew ?_ | refine blk_alloc ?_ _)); refine blk_put (cs := #[.string (⟨#[]⟩ : ByteArray), .slice none 0 0, .slice none 0 0]) ?_ 0 _ rfl; (with_reducible repeat (first | refine blk_drewN ?_ _ | refine blk_drew ?_ | refine blk_alloc ?_ _)); exact BK104.1⟩
              have n2_ : Aside0 (Below w.heap.size w (((w13.setCell ⟨gb104, 0, none⟩ (.string ((rd_T56 l0_1 x3_2).f0))).setCell ⟨gb104, 1, none⟩ (.slice A103_1 ((rd_T56 l0_1 x3_2).f1).length c103_1)).setCell ⟨gb104, 2, none⟩ (.slice A103_2 ((rd_T56 l0_1 x3_2).f2).length c103_2))) := ⟨pY29⟩
              (try clear BK101)
              (try clear BK104)
              (try clear HB)
              generalize (((w13.setCell ⟨gb104, 0, none⟩ (.string ((rd_T56 l0_1 x3_2).f0))).setCell ⟨gb104, 1, none⟩ (.slice A103_1 ((rd_T56 l0_1 x3_2).f1).length c103_1)).setCell ⟨gb104, 2, none⟩ (.slice A103_2 ((rd_T56 l0_1 x3_2).f2).length c103_2)) = w30 at n0_ n1_ n2_ ⊢
              have BK101 := n0_
              have BK104 := n1_
              have HB := n2_
              clear n0_ n1_ n2_
              have n0_ := Aside0.mk (blk_drew BK101.1)
              have n1_ := Aside0.mk (blk_drew BK104.1)
              have n2_ := Aside0.mk (below_drew1 HB.1)
              clear BK101
              clear BK104
              clear HB
              have BK101 := n0_
              have BK104 := n1_
              have HB := n2_
              clear n0_ n1_ n2_
              have p106 : 0 ≤ ((ji19) : Int) := of_decide_eq_true (pY50)
              have q106 : (ji19) < (l0_1.length : Int) := of_decide_eq_true (pY50)
              obtain ⟨ad106, A106_1, c106_1, A106_2, c106_2, e106, hx106_0, hx106_1, hx106_2, hl106_1, hi106_1, hl106_2, hi106_2⟩ := at_T56 HR0_1.1 (ji19) p106 q106
              have hw106_2 := hx106_2
              have hw106_1 := hx106_1
              have hw106_0 := hx106_0
              obtain rfl : ad103 = ad106 := (by injection e106)
              replace hx106_0 := (HB.1.cell (World.block_lt_of_cell? w _ hx106_0)).trans hx106_0
              replace hx106_1 := (HB.1.cell (World.block_lt_of_cell? w _ hx106_1)).trans hx106_1
              replace hx106_2 := (HB.1.cell (World.block_lt_of_cell? w _ hx106_2)).trans hx106_2
              have HR106_1 := Aside0.mk hi106_1
              have HC106_1 := Aside0.mk hl106_1
              clear hi106_1 hl106_1
              have HR106_2 := Aside0.mk hi106_2
              have HC106_2 := Aside0.mk hl106_2
              clear hi106_2 hl106_2
              replace p106 := eq_true p106
              replace q106 := eq_true q106
              refine start_ (n := 36) (S := fun w' => w'.cell? ⟨gb104, 0, none⟩ = some (.string ((rd_T56 l0_1 x3_2).f0)) ∧ w'.cell? ⟨gb104, 1, none⟩ = some (.slice A103_1 ((rd_T56 l0_1 x3_2).f1).length c103_1) ∧ w'.cell? ⟨gb104, 2, none⟩ = some (.slice A103_2 ((rd_T56 l0_1 x3_2).f2).length c103_2) ∧ w'.cell? ⟨gb101, 0, none⟩ = some (.slice A0_0 l0_0.length c0_0) ∧ w'.cell? ⟨gb101, 1, none⟩ = some (.slice (some ad103) l0_1.length c0_1) ∧ w'.cell? (ad103.add (((ji19)).toNat * 3)) = some (.string ((rd_T56 l0_1 (ji19)).f0)) ∧ w'.cell? ⟨(ad103.add (((ji19)).toNat * 3)).block, (ad103.add (((ji19)).toNat * 3)).off + 1, none⟩ = some (.slice A106_1 ((rd_T56 l0_1 (ji19)).f1).length c106_1) ∧ w'.cell? ⟨(ad103.add (((ji19)).toNat * 3)).block, (ad103.add (((ji19)).toNat * 3)).off + 2, none⟩ = some (.slice A106_2 ((rd_T56 l0_1 (ji19)).f2).length c106_2)) (ds := []) #[ff,ff,ff,ff,ff,ff,ff,ff,ff,ff,ff,ff,ff,ff,ff,ff,ff,ff,ff,ff,ff,ff,ff,ff,ff,ff,ff,ff,ff,ff,ff,ff,ff,ff,ff,ff] (by kernel_rfl) rfl rfl ⟨(blk_cell BK104.1 0).trans rfl, (blk_cell BK104.1 1).trans rfl, (blk_cell BK104.1 2).trans rfl, (blk_cell BK101.1 0).trans rfl, (blk_cell BK101.1 1).trans rfl, ((HB.1.cell (World.block_lt_of_cell? w _ hw106_0)).trans hw106_0), ((HB.1.cell (World.block_lt_of_cell? w _ hw106_1)).trans hw106_1), ((HB.1.cell (World.block_lt_of_cell? w _ hw106_2)).trans hw106_2)⟩ (fun hHeld => ?_); refine with_tabW spec_ShareBookOk.tab7 spec_ShareBookOk.bits7 (fun HT_ HW_ => ?_)
              generalize w30.drew = w31 at BK101 BK104 HB HR106_1 HR106_2 hx106_0 hx106_1 hx106_2 hHeld ⊢
              refine pU (i := 0) (N := some 28) #[tt,ff,ff,ff,ff,ff,ff,ff,ff,ff,ff,ff,ff,ff,ff,ff,ff,ff,ff,ff,ff,ff,ff,ff,ff,ff,ff,ff,ff,ff,ff,ff,ff,ff,ff,ff] ?_
              refine tK8 (i := 1) (N := some 29) #[tt,tt,ff,ff,ff,ff,ff,ff,ff,ff,ff,ff,ff,ff,ff,ff,ff,ff,ff,ff,ff,ff,ff,ff,ff,ff,ff,ff,ff,ff,ff,ff,ff,ff,ff,ff] ?_
              refine one_ (i := 2) (N := some 30) #[tt,tt,tt,ff,ff,ff,ff,ff,ff,ff,ff,ff,ff,ff,ff,ff,ff,ff,ff,ff,ff,ff,ff,ff,ff,ff,ff,ff,ff,ff,ff,ff,ff,ff,ff,ff] rfl rfl (one_of HT_.out (by kernel_rfl)) (by decide) (fun K hK => ?_)
              refine goes_ Try.func70 (by kernel_rfl) rfl #[.string ((rd_T56 l0_1 x3_2).f0)] (by rfl) rfl rfl (pY36) ?_
              with_reducible refine (spec_l1NameOk.calls k2 ((rd_T56 l0_1 x3_2).f0) true _ A16.out).mono ?_
              rintro e w' ⟨rfl, ⟨nd, rfl⟩⟩
              refine ⟨_, rfl, ?_⟩
              refine hK.out _ _ ⟨(blk_cell BK104.1 0).trans rfl, (blk_cell BK104.1 1).trans rfl, (blk_cell BK104.1 2).trans rfl, (blk_cell BK101.1 0).trans rfl, (blk_cell BK101.1 1).trans rfl, ((HB.1.cell (World.block_lt_of_cell? w _ hw106_0)).trans hw106_0), ((HB.1.cell (World.block_lt_of_cell? w _ hw106_1)).trans hw106_1), ((HB.1.cell (World.block_lt_of_cell? w _ hw106_2)).trans hw106_2)⟩ (fun hHeld => ?_)
              clear hK K
              refine norm_ (a' := ?_) ?_ ?_
              rotate_left
              ·show Act.put _ (some 30) _ = _
               simp only [pW]
               rfl
              refine pU (i := 3) (N := some 31) #[tt,tt,tt,tt,ff,ff,ff,ff,ff,ff,ff,ff,ff,ff,ff,ff,ff,ff,ff,ff,ff,ff,ff,ff,ff,ff,ff,ff,ff,ff,ff,ff,ff,ff,ff,ff] ?_
              refine pU (i := 4) (N := some 32) #[tt,tt,tt,tt,tt,ff,ff,ff,ff,ff,ff,ff,ff,ff,ff,ff,ff,ff,ff,ff,ff,ff,ff,ff,ff,ff,ff,ff,ff,ff,ff,ff,ff,ff,ff,ff] ?_
              refine pU (i := 5) (N := some 33) #[tt,tt,tt,tt,tt,tt,ff,ff,ff,ff,ff,ff,ff,ff,ff,ff,ff,ff,ff,ff,ff,ff,ff,ff,ff,ff,ff,ff,ff,ff,ff,ff,ff,ff,ff,ff] ?_
              refine pU (i := 6) (N := some 34) #[tt,tt,tt,tt,tt,tt,tt,ff,ff,ff,ff,ff,ff,ff,ff,ff,ff,ff,ff,ff,ff,ff,ff,ff,ff,ff,ff,ff,ff,ff,ff,ff,ff,ff,ff,ff] ?_
              refine pU (i := 7) (N := some 35) #[tt,tt,tt,tt,tt,tt,tt,tt,ff,ff,ff,ff,ff,ff,ff,ff,ff,ff,ff,ff,ff,ff,ff,ff,ff,ff,ff,ff,ff,ff,ff,ff,ff,ff,ff,ff] ?_
              refine pU (i := 8) (N := some 36) #[tt,tt,tt,tt,tt,tt,tt,tt,tt,ff,ff,ff,ff,ff,ff,ff,ff,ff,ff,ff,ff,ff,ff,ff,ff,ff,ff,ff,ff,ff,ff,ff,ff,ff,ff,ff] ?_
              refine pU (i := 10) (N := some 38) #[tt,tt,tt,tt,tt,tt,tt,tt,tt,ff,tt,ff,ff,ff,ff,ff,ff,ff,ff,ff,ff,ff,ff,ff,ff,ff,ff,ff,ff,ff,ff,ff,ff,ff,ff,ff] ?_
              refine pU (i := 11) (N := some 39) #[tt,tt,tt,tt,tt,tt,tt,tt,tt,ff,tt,tt,ff,ff,ff,ff,ff,ff,ff,ff,ff,ff,ff,ff,ff,ff,ff,ff,ff,ff,ff,ff,ff,ff,ff,ff] ?_
              refine pU (i := 15) (N := some 43) #[tt,tt,tt,tt,tt,tt,tt,tt,tt,ff,tt,tt,ff,ff,ff,tt,ff,ff,ff,ff,ff,ff,ff,ff,ff,ff,ff,ff,ff,ff,ff,ff,ff,ff,ff,ff] ?_
              refine tK8 (i := 9) (N := some 37) #[tt,tt,tt,tt,tt,tt,tt,tt,tt,tt,tt,tt,ff,ff,ff,tt,ff,ff,ff,ff,ff,ff,ff,ff,ff,ff,ff,ff,ff,ff,ff,ff,ff,ff,ff,ff] ?_
              refine pU (i := 12) (N := some 40) #[tt,tt,tt,tt,tt,tt,tt,tt,tt,tt,tt,tt,tt,ff,ff,tt,ff,ff,ff,ff,ff,ff,ff,ff,ff,ff,ff,ff,ff,ff,ff,ff,ff,ff,ff,ff] ?_
              refine pU (i := 13) (N := some 41) #[tt,tt,tt,tt,tt,tt,tt,tt,tt,tt,tt,tt,tt,tt,ff,tt,ff,ff,ff,ff,ff,ff,ff,ff,ff,ff,ff,ff,ff,ff,ff,ff,ff,ff,ff,ff] ?_
              refine tK8 (i := 14) (N := some 42) #[tt,tt,tt,tt,tt,tt,tt,tt,tt,tt,tt,tt,tt,tt,tt,tt,ff,ff,ff,ff,ff,ff,ff,ff,ff,ff,ff,ff,ff,ff,ff,ff,ff,ff,ff,ff] ?_
              refine tK8 (i := 16) (N := some 44) #[tt,tt,tt,tt,tt,tt,tt,tt,tt,tt,tt,tt,tt,tt,tt,tt,tt,ff,ff,ff,ff,ff,ff,ff,ff,ff,ff,ff,ff,ff,ff,ff,ff,ff,ff,ff] ?_
              refine pU (i := 17) (N := some 45) #[tt,tt,tt,tt,tt,tt,tt,tt,tt,tt,tt,tt,tt,tt,tt,tt,tt,tt,ff,ff,ff,ff,ff,ff,ff,ff,ff,ff,ff,ff,ff,ff,ff,ff,ff,ff] ?_
              refine pU (i := 18) (N := some 46) #[tt,tt,tt,tt,tt,tt,tt,tt,tt,tt,tt,tt,tt,tt,tt,tt,tt,tt,tt,ff,ff,ff,ff,ff,ff,ff,ff,ff,ff,ff,ff,ff,ff,ff,ff,ff] ?_
              refine pU (i := 19) (N := some 47) #[tt,tt,tt,tt,tt,tt,tt,tt,tt,tt,tt,tt,tt,tt,tt,tt,tt,tt,tt,tt,ff,ff,ff,ff,ff,ff,ff,ff,ff,ff,ff,ff,ff,ff,ff,ff] ?_
              refine pU (i := 20) (N := some 48) #[tt,tt,tt,tt,tt,tt,tt,tt,tt,tt,tt,tt,tt,tt,tt,tt,tt,tt,tt,tt,tt,ff,ff,ff,ff,ff,ff,ff,ff,ff,ff,ff,ff,ff,ff,ff] ?_
              refine pV (i := 21) (N := some 49) #[tt,tt,tt,tt,tt,tt,tt,tt,tt,tt,tt,tt,tt,tt,tt,tt,tt,tt,tt,tt,tt,tt,ff,ff,ff,ff,ff,ff,ff,ff,ff,ff,ff,ff,ff,ff] ?_
              refine pV (i := 22) (N := some 50) #[tt,tt,tt,tt,tt,tt,tt,tt,tt,tt,tt,tt,tt,tt,tt,tt,tt,tt,tt,tt,tt,tt,tt,ff,ff,ff,ff,ff,ff,ff,ff,ff,ff,ff,ff,ff] ?_
              refine pV (i := 23) (N := some 51) #[tt,tt,tt,tt,tt,tt,tt,tt,tt,tt,tt,tt,tt,tt,tt,tt,tt,tt,tt,tt,tt,tt,tt,tt,ff,ff,ff,ff,ff,ff,ff,ff,ff,ff,ff,ff] ?_
              refine pV (i := 24) (N := some 52) #[tt,tt,tt,tt,tt,tt,tt,tt,tt,tt,tt,tt,tt,tt,tt,tt,tt,tt,tt,tt,tt,tt,tt,tt,tt,ff,ff,ff,ff,ff,ff,ff,ff,ff,ff,ff] ?_
              refine pV (i := 25) (N := some 53) #[tt,tt,tt,tt,tt,tt,tt,tt,tt,tt,tt,tt,tt,tt,tt,tt,tt,tt,tt,tt,tt,tt,tt,tt,tt,tt,ff,ff,ff,ff,ff,ff,ff,ff,ff,ff] ?_
              refine pV (i := 26) (N := some 54) #[tt,tt,tt,tt,tt,tt,tt,tt,tt,tt,tt,tt,tt,tt,tt,tt,tt,tt,tt,tt,tt,tt,tt,tt,tt,tt,tt,ff,ff,ff,ff,ff,ff,ff,ff,ff] ?_
              refine pU (i := 27) (N := some 55) #[tt,tt,tt,tt,tt,tt,tt,tt,tt,tt,tt,tt,tt,tt,tt,tt,tt,tt,tt,tt,tt,tt,tt,tt,tt,tt,tt,tt,ff,ff,ff,ff,ff,ff,ff,ff] ?_
              refine pU (i := 28) (N := some 56) #[tt,tt,tt,tt,tt,tt,tt,tt,tt,tt,tt,tt,tt,tt,tt,tt,tt,tt,tt,tt,tt,tt,tt,tt,tt,tt,tt,tt,tt,ff,ff,ff,ff,ff,ff,ff] ?_
              refine pV (i := 29) (N := some 57) #[tt,tt,tt,tt,tt,tt,tt,tt,tt,tt,tt,tt,tt,tt,tt,tt,tt,tt,tt,tt,tt,tt,tt,tt,tt,tt,tt,tt,tt,tt,ff,ff,ff,ff,ff,ff] ?_
              refine pV (i := 30) (N := some 58) #[tt,tt,tt,tt,tt,tt,tt,tt,tt,tt,tt,tt,tt,tt,tt,tt,tt,tt,tt,tt,tt,tt,tt,tt,tt,tt,tt,tt,tt,tt,tt,ff,ff,ff,ff,ff] ?_
              refine pV (i := 31) (N := some 59) #[tt,tt,tt,tt,tt,tt,tt,tt,tt,tt,tt,tt,tt,tt,tt,tt,tt,tt,tt,tt,tt,tt,tt,tt,tt,tt,tt,tt,tt,tt,tt,tt,ff,ff,ff,ff] ?_
              refine pV (i := 32) (N := some 60) #[tt,tt,tt,tt,tt,tt,tt,tt,tt,tt,tt,tt,tt,tt,tt,tt,tt,tt,tt,tt,tt,tt,tt,tt,tt,tt,tt,tt,tt,tt,tt,tt,tt,ff,ff,ff] ?_
              refine pV (i := 33) (N := some 61) #[tt,tt,tt,tt,tt,tt,tt,tt,tt,tt,tt,tt,tt,tt,tt,tt,tt,tt,tt,tt,tt,tt,tt,tt,tt,tt,tt,tt,tt,tt,tt,tt,tt,tt,ff,ff] ?_
              refine pV (i := 34) (N := some 62) #[tt,tt,tt,tt,tt,tt,tt,tt,tt,tt,tt,tt,tt,tt,tt,tt,tt,tt,tt,tt,tt,tt,tt,tt,tt,tt,tt,tt,tt,tt,tt,tt,tt,tt,tt,ff] ?_
              refine pU (i := 35) (N := some 63) #[tt,tt,tt,tt,tt,tt,tt,tt,tt,tt,tt,tt,tt,tt,tt,tt,tt,tt,tt,tt,tt,tt,tt,tt,tt,tt,tt,tt,tt,tt,tt,tt,tt,tt,tt,tt] ?_
              refine done_ (done_of HT_.out (by kernel_rfl)) ?_
              try go_wp2
              go_meet
              case rel => exact ⟨_, (true), (pY51), H', ⟨by have := HJ1.out; have := HK2.out; first | omega | exact Nat.le_refl _⟩, ⟨by (with_reducible repeat (first | refine blk_drewN ?_ _ | refine blk_drew ?_ | refine blk_alloc ?_ _)); exact BK101.1⟩, ⟨by (with_reducible repeat (first | refine blk_drewN ?_ _ | refine blk_drew ?_ | refine blk_alloc ?_ _)); exact BK104.1⟩, ⟨pY29⟩⟩
            ·rw [if_neg c21] at H
             exact absurd H (by simp)
           ·rw [if_neg c20] at H
            exact absurd H (by simp)
          ·rw [if_neg c18] at H
           have c18b0 : decide (0 < x3_2) = false := decide_eq_false c18
           clear c18
           (first | rw [c18b0] | (simp only [i64_w, i32_w]; rw [c18b0]) | skip)
           replace H := Option.bind_eq_some_iff.mp H
           obtain ⟨t109, A320, H⟩ := H
           replace H : (if t109 = true then ((spec_l1NamesOk.f k2 ((rd_T56 l0_1 x3_2).f1) ((rd_T56 l0_1 x3_2).f2)).bind fun t110 => (spec_ShareBookOk.j2 k2 x3_2 (!t110) l0_0 l0_1 ((rd_T56 l0_1 x3_2).f0) ((rd_T56 l0_1 x3_2).f1) ((rd_T56 l0_1 x3_2).f2))) else (spec_ShareBookOk.j2 k2 x3_2 true l0_0 l0_1 ((rd_T56 l0_1 x3_2).f0) ((rd_T56 l0_1 x3_2).f1) ((rd_T56 l0_1 x3_2).f2))) = some r := H
           have A32 := Aside0.mk A320
           clear A320
           by_cases c33 : t109 = true
           ·subst c33
            have H1 : ((spec_l1NamesOk.f k2 ((rd_T56 l0_1 x3_2).f1) ((rd_T56 l0_1 x3_2).f2)).bind fun t110 => (spec_ShareBookOk.j2 k2 x3_2 (!t110) l0_0 l0_1 ((rd_T56 l0_1 x3_2).f0) ((rd_T56 l0_1 x3_2).f1) ((rd_T56 l0_1 x3_2).f2))) = some r := by rw [if_pos rfl] at H; exact H
            clear H
            have H := H1
            clear H1
            replace H := Option.bind_eq_some_iff.mp H
            obtain ⟨t110, A340, H⟩ := H
            replace H : (spec_ShareBookOk.j2 k2 x3_2 (!t110) l0_0 l0_1 ((rd_T56 l0_1 x3_2).f0) ((rd_T56 l0_1 x3_2).f1) ((rd_T56 l0_1 x3_2).f2)) = some r := H
            have A34 := Aside0.mk A340
            clear A340
            have H' := Aside0.mk H
            clear H
            try go_wp2
            have n0_ : Aside0 ((((w13.setCell ⟨gb104, 0, none⟩ (.string ((rd_T56 l0_1 x3_2).f0))).setCell ⟨gb104, 1, none⟩ (.slice A103_1 ((rd_T56 l0_1 x3_2).f1).length c103_1)).setCell ⟨gb104, 2, none⟩ (.slice A103_2 ((rd_T56 l0_1 x3_2).f2).length c103_2)).heap[gb101]? = some (.cells #[.slice A0_0 l0_0.length c0_0, .slice (some ad103) l0_1.length c0_1] 31 (0, 0))) := ⟨by (with_reducible repeat (first | refine blk_drewN ?_ _ | refine blk_drew ?_ | refine blk_alloc ?_ _)); refine blk_far ?_ NB101_104.1 _; (with_reducible repeat (first | refine blk_drewN ?_ _ | refine blk_drew ?_ | refine blk_alloc ?_ _)); refine blk_far ?_ NB101_104.1 _; (with_reducible repeat (first | refine blk_drewN ?_ _ | refine blk_drew ?_ | refine blk_alloc ?_ _)); refine blk_far ?_ NB101_104.1 _; (with_reducible repeat (first | refine blk_drewN ?_ _ | refine blk_drew ?_ | refine blk_alloc ?_ _)); exact BK101.1⟩
            have n1_ : Aside0 ((((w13.setCell ⟨gb104, 0, none⟩ (.string ((rd_T56 l0_1 x3_2).f0))).setCell ⟨gb104, 1, none⟩ (.slice A103_1 ((rd_T56 l0_1 x3_2).f1).length c103_1)).setCell ⟨gb104, 2, none⟩ (.slice A103_2 ((rd_T56 l0_1 x3_2).f2).length c103_2)).heap[gb104]? = some (.cells #[.string ((rd_T56 l0_1 x3_2).f0), .slice A103_1 ((rd_T56 l0_1 x3_2).f1).length c103_1, .slice A103_2 ((rd_T56 l0_1 x3_2).f2).length c103_2] 56 (0, 0))) := ⟨by (with_reducible repeat (first | refine blk_drewN ?_ _ | refine blk_drew ?_ | refine blk_alloc ?_ _)); refine blk_put (cs := #[.string ((rd_T56 l0_1 x3_2).f0), .slice A103_1 ((rd_T56 l0_1 x3_2).f1).length c103_1, .slice none 0 0]) ?_ 2 _ rfl; (with_reducible repeat (first | refine blk_drewN ?_ _ | refine blk_drew ?_ | refine blk_alloc ?_ _)); refine blk_put (cs := #[.string ((rd_T56 l0_1 x3_2).f0), .slice none 0 0, .slice none 0 0]) ?_ 1 _ rfl; (with_reducible repeat (first | refine blk_drewN ?_ _ | refine blk_drew ?_ | refine blk_alloc ?_ _)); refine blk_put (cs := #[.string (⟨#[]⟩ : ByteArray), .slice none 0 0, .slice none 0 0]) ?_ 0 _ rfl; (with_reducible repeat (first | refine blk_drewN ?_ _ | refine blk_drew ?_ | refine blk_alloc ?_ _)); exact BK104.1⟩
            have n2_ : Aside0 (Below w.heap.size w (((w13.setCell ⟨gb104, 0, none⟩ (.string ((rd_T56 l0_1 x3_2).f0))).setCell ⟨gb104, 1, none⟩ (.slice A103_1 ((rd_T56 l0_1 x3_2).f1).length c103_1)).setCell ⟨gb104, 2, none⟩ (.slice A103_2 ((rd_T56 l0_1 x3_2).f2).length c103_2))) := ⟨pY29⟩
            (try clear BK101)
            (try clear BK104)
            (try clear HB)
            generalize (((w13.setCell ⟨gb104, 0, none⟩ (.string ((rd_T56 l0_1 x3_2).f0))).setCell ⟨gb104, 1, none⟩ (.slice A103_1 ((rd_T56 l0_1 x3_2).f1).length c103_1)).setCell ⟨gb104, 2, none⟩ (.slice A103_2 ((rd_T56 l0_1 x3_2).f2).length c103_2)) = w35 at n0_ n1_ n2_ ⊢
            have BK101 := n0_
            have BK104 := n1_
            have HB := n2_
            clear n0_ n1_ n2_
            have n0_ := Aside0.mk (blk_drew BK101.1)
            have n1_ := Aside0.mk (blk_drew BK104.1)
            have n2_ := Aside0.mk (below_drew1 HB.1)
            clear BK101
            clear BK104
            clear HB
            have BK101 := n0_
            have BK104 := n1_
            have HB := n2_
            clear n0_ n1_ n2_
            refine start_ (n := 36) (S := fun w' => w'.cell? ⟨gb104, 0, none⟩ = some (.string ((rd_T56 l0_1 x3_2).f0)) ∧ w'.cell? ⟨gb104, 1, none⟩ = some (.slice A103_1 ((rd_T56 l0_1 x3_2).f1).length c103_1) ∧ w'.cell? ⟨gb104, 2, none⟩ = some (.slice A103_2 ((rd_T56 l0_1 x3_2).f2).length c103_2) ∧ w'.cell? ⟨gb101, 0, none⟩ = some (.slice A0_0 l0_0.length c0_0) ∧ w'.cell? ⟨gb101, 1, none⟩ = some (.slice (some ad103) l0_1.length c0_1)) (ds := []) #[ff,ff,ff,ff,ff,ff,ff,ff,ff,ff,ff,ff,ff,ff,ff,ff,ff,ff,ff,ff,ff,ff,ff,ff,ff,ff,ff,ff,ff,ff,ff,ff,ff,ff,ff,ff] (by kernel_rfl) rfl rfl ⟨(blk_cell BK104.1 0).trans rfl, (blk_cell BK104.1 1).trans rfl, (blk_cell BK104.1 2).trans rfl, (blk_cell BK101.1 0).trans rfl, (blk_cell BK101.1 1).trans rfl⟩ (fun hHeld => ?_); refine with_tabW spec_ShareBookOk.tab7 spec_ShareBookOk.bits7 (fun HT_ HW_ => ?_)
            generalize w35.drew = w36 at BK101 BK104 HB hHeld ⊢
            refine pU (i := 0) (N := some 28) #[tt,ff,ff,ff,ff,ff,ff,ff,ff,ff,ff,ff,ff,ff,ff,ff,ff,ff,ff,ff,ff,ff,ff,ff,ff,ff,ff,ff,ff,ff,ff,ff,ff,ff,ff,ff] ?_
            refine tK5 (i := 1) (N := some 29) #[tt,tt,ff,ff,ff,ff,ff,ff,ff,ff,ff,ff,ff,ff,ff,ff,ff,ff,ff,ff,ff,ff,ff,ff,ff,ff,ff,ff,ff,ff,ff,ff,ff,ff,ff,ff] ?_
            refine one_ (i := 2) (N := some 30) #[tt,tt,tt,ff,ff,ff,ff,ff,ff,ff,ff,ff,ff,ff,ff,ff,ff,ff,ff,ff,ff,ff,ff,ff,ff,ff,ff,ff,ff,ff,ff,ff,ff,ff,ff,ff] rfl rfl (one_of HT_.out (by kernel_rfl)) (by decide) (fun K hK => ?_)
            refine goes_ Try.func70 (by kernel_rfl) rfl #[.string ((rd_T56 l0_1 x3_2).f0)] (by rfl) rfl rfl (pY36) ?_
            with_reducible refine (spec_l1NameOk.calls k2 ((rd_T56 l0_1 x3_2).f0) true _ A16.out).mono ?_
            rintro e w' ⟨rfl, ⟨nd, rfl⟩⟩
            refine ⟨_, rfl, ?_⟩
            refine hK.out _ _ ⟨(blk_cell BK104.1 0).trans rfl, (blk_cell BK104.1 1).trans rfl, (blk_cell BK104.1 2).trans rfl, (blk_cell BK101.1 0).trans rfl, (blk_cell BK101.1 1).trans rfl⟩ (fun hHeld => ?_)
            clear hK K
            refine norm_ (a' := ?_) ?_ ?_
            rotate_left
            ·show Act.put _ (some 30) _ = _
             simp only [pW]
             rfl
            refine pU (i := 3) (N := some 31) #[tt,tt,tt,tt,ff,ff,ff,ff,ff,ff,ff,ff,ff,ff,ff,ff,ff,ff,ff,ff,ff,ff,ff,ff,ff,ff,ff,ff,ff,ff,ff,ff,ff,ff,ff,ff] ?_
            refine pU (i := 4) (N := some 32) #[tt,tt,tt,tt,tt,ff,ff,ff,ff,ff,ff,ff,ff,ff,ff,ff,ff,ff,ff,ff,ff,ff,ff,ff,ff,ff,ff,ff,ff,ff,ff,ff,ff,ff,ff,ff] ?_
            refine pU (i := 5) (N := some 33) #[tt,tt,tt,tt,tt,tt,ff,ff,ff,ff,ff,ff,ff,ff,ff,ff,ff,ff,ff,ff,ff,ff,ff,ff,ff,ff,ff,ff,ff,ff,ff,ff,ff,ff,ff,ff] ?_
            refine pU (i := 6) (N := some 34) #[tt,tt,tt,tt,tt,tt,tt,ff,ff,ff,ff,ff,ff,ff,ff,ff,ff,ff,ff,ff,ff,ff,ff,ff,ff,ff,ff,ff,ff,ff,ff,ff,ff,ff,ff,ff] ?_
            refine pU (i := 7) (N := some 35) #[tt,tt,tt,tt,tt,tt,tt,tt,ff,ff,ff,ff,ff,ff,ff,ff,ff,ff,ff,ff,ff,ff,ff,ff,ff,ff,ff,ff,ff,ff,ff,ff,ff,ff,ff,ff] ?_
            refine pV (i := 8) (N := some 36) #[tt,tt,tt,tt,tt,tt,tt,tt,tt,ff,ff,ff,ff,ff,ff,ff,ff,ff,ff,ff,ff,ff,ff,ff,ff,ff,ff,ff,ff,ff,ff,ff,ff,ff,ff,ff] ?_
            refine pV (i := 9) (N := some 37) #[tt,tt,tt,tt,tt,tt,tt,tt,tt,tt,ff,ff,ff,ff,ff,ff,ff,ff,ff,ff,ff,ff,ff,ff,ff,ff,ff,ff,ff,ff,ff,ff,ff,ff,ff,ff] ?_
            refine pV (i := 10) (N := some 38) #[tt,tt,tt,tt,tt,tt,tt,tt,tt,tt,tt,ff,ff,ff,ff,ff,ff,ff,ff,ff,ff,ff,ff,ff,ff,ff,ff,ff,ff,ff,ff,ff,ff,ff,ff,ff] ?_
            refine pV (i := 11) (N := some 39) #[tt,tt,tt,tt,tt,tt,tt,tt,tt,tt,tt,tt,ff,ff,ff,ff,ff,ff,ff,ff,ff,ff,ff,ff,ff,ff,ff,ff,ff,ff,ff,ff,ff,ff,ff,ff] ?_
            refine pV (i := 12) (N := some 40) #[tt,tt,tt,tt,tt,tt,tt,tt,tt,tt,tt,tt,tt,ff,ff,ff,ff,ff,ff,ff,ff,ff,ff,ff,ff,ff,ff,ff,ff,ff,ff,ff,ff,ff,ff,ff] ?_
            refine pV (i := 13) (N := some 41) #[tt,tt,tt,tt,tt,tt,tt,tt,tt,tt,tt,tt,tt,tt,ff,ff,ff,ff,ff,ff,ff,ff,ff,ff,ff,ff,ff,ff,ff,ff,ff,ff,ff,ff,ff,ff] ?_
            refine pV (i := 14) (N := some 42) #[tt,tt,tt,tt,tt,tt,tt,tt,tt,tt,tt,tt,tt,tt,tt,ff,ff,ff,ff,ff,ff,ff,ff,ff,ff,ff,ff,ff,ff,ff,ff,ff,ff,ff,ff,ff] ?_
            refine pV (i := 15) (N := some 43) #[tt,tt,tt,tt,tt,tt,tt,tt,tt,tt,tt,tt,tt,tt,tt,tt,ff,ff,ff,ff,ff,ff,ff,ff,ff,ff,ff,ff,ff,ff,ff,ff,ff,ff,ff,ff] ?_
            refine pV (i := 16) (N := some 44) #[tt,tt,tt,tt,tt,tt,tt,tt,tt,tt,tt,tt,tt,tt,tt,tt,tt,ff,ff,ff,ff,ff,ff,ff,ff,ff,ff,ff,ff,ff,ff,ff,ff,ff,ff,ff] ?_
            refine pV (i := 17) (N := some 45) #[tt,tt,tt,tt,tt,tt,tt,tt,tt,tt,tt,tt,tt,tt,tt,tt,tt,tt,ff,ff,ff,ff,ff,ff,ff,ff,ff,ff,ff,ff,ff,ff,ff,ff,ff,ff] ?_
            refine pU (i := 18) (N := some 46) #[tt,tt,tt,tt,tt,tt,tt,tt,tt,tt,tt,tt,tt,tt,tt,tt,tt,tt,tt,ff,ff,ff,ff,ff,ff,ff,ff,ff,ff,ff,ff,ff,ff,ff,ff,ff] ?_
            refine pU (i := 19) (N := some 47) #[tt,tt,tt,tt,tt,tt,tt,tt,tt,tt,tt,tt,tt,tt,tt,tt,tt,tt,tt,tt,ff,ff,ff,ff,ff,ff,ff,ff,ff,ff,ff,ff,ff,ff,ff,ff] ?_
            refine pU (i := 20) (N := some 48) #[tt,tt,tt,tt,tt,tt,tt,tt,tt,tt,tt,tt,tt,tt,tt,tt,tt,tt,tt,tt,tt,ff,ff,ff,ff,ff,ff,ff,ff,ff,ff,ff,ff,ff,ff,ff] ?_
            refine pU (i := 21) (N := some 49) #[tt,tt,tt,tt,tt,tt,tt,tt,tt,tt,tt,tt,tt,tt,tt,tt,tt,tt,tt,tt,tt,tt,ff,ff,ff,ff,ff,ff,ff,ff,ff,ff,ff,ff,ff,ff] ?_
            refine pU (i := 23) (N := some 51) #[tt,tt,tt,tt,tt,tt,tt,tt,tt,tt,tt,tt,tt,tt,tt,tt,tt,tt,tt,tt,tt,tt,ff,tt,ff,ff,ff,ff,ff,ff,ff,ff,ff,ff,ff,ff] ?_
            refine tK5 (i := 22) (N := some 50) #[tt,tt,tt,tt,tt,tt,tt,tt,tt,tt,tt,tt,tt,tt,tt,tt,tt,tt,tt,tt,tt,tt,tt,tt,ff,ff,ff,ff,ff,ff,ff,ff,ff,ff,ff,ff] ?_
            refine tK5 (i := 24) (N := some 52) #[tt,tt,tt,tt,tt,tt,tt,tt,tt,tt,tt,tt,tt,tt,tt,tt,tt,tt,tt,tt,tt,tt,tt,tt,tt,ff,ff,ff,ff,ff,ff,ff,ff,ff,ff,ff] ?_
            refine one_ (i := 25) (N := some 53) #[tt,tt,tt,tt,tt,tt,tt,tt,tt,tt,tt,tt,tt,tt,tt,tt,tt,tt,tt,tt,tt,tt,tt,tt,tt,tt,ff,ff,ff,ff,ff,ff,ff,ff,ff,ff] rfl rfl (one_of HT_.out (by kernel_rfl)) (by decide) (fun K hK => ?_)
            refine goes_ Try.func71 (by kernel_rfl) rfl #[.slice A103_2 ((rd_T56 l0_1 x3_2).f2).length c103_2, .slice A0_0 l0_0.length c0_0] (by rfl) rfl rfl (pY36) ?_
            with_reducible refine (spec_l1NamesOk.calls k2 _ _ ((rd_T56 l0_1 x3_2).f2) _ _ l0_0 true _ ?side1 ?side2 ?side3 ?side4 A32.out).mono ?_
            (case side1 => exact pC (Kd.C_below HR103_2.1 (pY29)))
            (case side2 => exact HC103_2.1)
            (case side3 => exact pC (Kd.C_below HR0_0.1 (pY29)))
            (case side4 => exact HC0_0.1)
            rintro e w' ⟨rfl, ⟨nd, rfl⟩⟩
            refine ⟨_, rfl, ?_⟩
            refine hK.out _ _ ⟨(blk_cell BK104.1 0).trans rfl, (blk_cell BK104.1 1).trans rfl, (blk_cell BK104.1 2).trans rfl, (blk_cell BK101.1 0).trans rfl, (blk_cell BK101.1 1).trans rfl⟩ (fun hHeld => ?_)
            clear hK K
            refine norm_ (a' := ?_) ?_ ?_
            rotate_left
            ·show Act.put _ (some 53) _ = _
             simp only [pW]
             rfl
            refine pU (i := 26) (N := some 54) #[tt,tt,tt,tt,tt,tt,tt,tt,tt,tt,tt,tt,tt,tt,tt,tt,tt,tt,tt,tt,tt,tt,tt,tt,tt,tt,tt,ff,ff,ff,ff,ff,ff,ff,ff,ff] ?_
            refine pU (i := 27) (N := some 55) #[tt,tt,tt,tt,tt,tt,tt,tt,tt,tt,tt,tt,tt,tt,tt,tt,tt,tt,tt,tt,tt,tt,tt,tt,tt,tt,tt,tt,ff,ff,ff,ff,ff,ff,ff,ff] ?_
            refine pU (i := 28) (N := some 56) #[tt,tt,tt,tt,tt,tt,tt,tt,tt,tt,tt,tt,tt,tt,tt,tt,tt,tt,tt,tt,tt,tt,tt,tt,tt,tt,tt,tt,tt,ff,ff,ff,ff,ff,ff,ff] ?_
            refine pU (i := 29) (N := some 57) #[tt,tt,tt,tt,tt,tt,tt,tt,tt,tt,tt,tt,tt,tt,tt,tt,tt,tt,tt,tt,tt,tt,tt,tt,tt,tt,tt,tt,tt,tt,ff,ff,ff,ff,ff,ff] ?_
            refine pU (i := 31) (N := some 59) #[tt,tt,tt,tt,tt,tt,tt,tt,tt,tt,tt,tt,tt,tt,tt,tt,tt,tt,tt,tt,tt,tt,tt,tt,tt,tt,tt,tt,tt,tt,ff,tt,ff,ff,ff,ff] ?_
            refine tK5 (i := 30) (N := some 58) #[tt,tt,tt,tt,tt,tt,tt,tt,tt,tt,tt,tt,tt,tt,tt,tt,tt,tt,tt,tt,tt,tt,tt,tt,tt,tt,tt,tt,tt,tt,tt,tt,ff,ff,ff,ff] ?_
            refine tK5 (i := 32) (N := some 60) #[tt,tt,tt,tt,tt,tt,tt,tt,tt,tt,tt,tt,tt,tt,tt,tt,tt,tt,tt,tt,tt,tt,tt,tt,tt,tt,tt,tt,tt,tt,tt,tt,tt,ff,ff,ff] ?_
            refine one_ (i := 33) (N := some 61) #[tt,tt,tt,tt,tt,tt,tt,tt,tt,tt,tt,tt,tt,tt,tt,tt,tt,tt,tt,tt,tt,tt,tt,tt,tt,tt,tt,tt,tt,tt,tt,tt,tt,tt,ff,ff] rfl rfl (one_of HT_.out (by kernel_rfl)) (by decide) (fun K hK => ?_)
            refine goes_ Try.func71 (by kernel_rfl) rfl #[.slice A103_1 ((rd_T56 l0_1 x3_2).f1).length c103_1, .slice A103_2 ((rd_T56 l0_1 x3_2).f2).length c103_2] (by rfl) rfl rfl (pY36) ?_
            with_reducible refine (spec_l1NamesOk.calls k2 _ _ ((rd_T56 l0_1 x3_2).f1) _ _ ((rd_T56 l0_1 x3_2).f2) t110 _ ?side1 ?side2 ?side3 ?side4 A34.out).mono ?_
            (case side1 => exact pC (Kd.C_below HR103_1.1 (pY29)))
            (case side2 => exact HC103_1.1)
            (case side3 => exact pC (Kd.C_below HR103_2.1 (pY29)))
            (case side4 => exact HC103_2.1)
            rintro e w' ⟨rfl, ⟨nd, rfl⟩⟩
            refine ⟨_, rfl, ?_⟩
            refine hK.out _ _ ⟨(blk_cell BK104.1 0).trans rfl, (blk_cell BK104.1 1).trans rfl, (blk_cell BK104.1 2).trans rfl, (blk_cell BK101.1 0).trans rfl, (blk_cell BK101.1 1).trans rfl⟩ (fun hHeld => ?_)
            clear hK K
            refine norm_ (a' := ?_) ?_ ?_
            rotate_left
            ·show Act.put _ (some 61) _ = _
             simp only [pW]
             rfl
            refine pU (i := 34) (N := some 62) #[tt,tt,tt,tt,tt,tt,tt,tt,tt,tt,tt,tt,tt,tt,tt,tt,tt,tt,tt,tt,tt,tt,tt,tt,tt,tt,tt,tt,tt,tt,tt,tt,tt,tt,tt,ff] ?_
            refine pU (i := 35) (N := some 63) #[tt,tt,tt,tt,tt,tt,tt,tt,tt,tt,tt,tt,tt,tt,tt,tt,tt,tt,tt,tt,tt,tt,tt,tt,tt,tt,tt,tt,tt,tt,tt,tt,tt,tt,tt,tt] ?_
            refine done_ (done_of HT_.out (by kernel_rfl)) ?_
            try go_wp2
            go_meet
            case rel => exact ⟨_, (!t110), (pY51), H', ⟨by have := HJ1.out; have := HK2.out; first | omega | exact Nat.le_refl _⟩, ⟨by (with_reducible repeat (first | refine blk_drewN ?_ _ | refine blk_drew ?_ | refine blk_alloc ?_ _)); exact BK101.1⟩, ⟨by (with_reducible repeat (first | refine blk_drewN ?_ _ | refine blk_drew ?_ | refine blk_alloc ?_ _)); exact BK104.1⟩, ⟨pY29⟩⟩
           ·replace c33 := Bool.eq_false_iff.mpr c33
            subst c33
            have H1 : (spec_ShareBookOk.j2 k2 x3_2 true l0_0 l0_1 ((rd_T56 l0_1 x3_2).f0) ((rd_T56 l0_1 x3_2).f1) ((rd_T56 l0_1 x3_2).f2)) = some r := by rw [if_neg (show ¬ (false = true) by decide)] at H; exact H
            clear H
            have H := H1
            clear H1
            have H' := Aside0.mk H
            clear H
            try go_wp2
            have n0_ : Aside0 ((((w13.setCell ⟨gb104, 0, none⟩ (.string ((rd_T56 l0_1 x3_2).f0))).setCell ⟨gb104, 1, none⟩ (.slice A103_1 ((rd_T56 l0_1 x3_2).f1).length c103_1)).setCell ⟨gb104, 2, none⟩ (.slice A103_2 ((rd_T56 l0_1 x3_2).f2).length c103_2)).heap[gb101]? = some (.cells #[.slice A0_0 l0_0.length c0_0, .slice (some ad103) l0_1.length c0_1] 31 (0, 0))) := ⟨by (with_reducible repeat (first | refine blk_drewN ?_ _ | refine blk_drew ?_ | refine blk_alloc ?_ _)); refine blk_far ?_ NB101_104.1 _; (with_reducible repeat (first | refine blk_drewN ?_ _ | refine blk_drew ?_ | refine blk_alloc ?_ _)); refine blk_far ?_ NB101_104.1 _; (with_reducible repeat (first | refine blk_drewN ?_ _ | refine blk_drew ?_ | refine blk_alloc ?_ _)); refine blk_far ?_ NB101_104.1 _; (with_reducible repeat (first | refine blk_drewN ?_ _ | refine blk_drew ?_ | refine blk_alloc ?_ _)); exact BK101.1⟩
            have n1_ : Aside0 ((((w13.setCell ⟨gb104, 0, none⟩ (.string ((rd_T56 l0_1 x3_2).f0))).setCell ⟨gb104, 1, none⟩ (.slice A103_1 ((rd_T56 l0_1 x3_2).f1).length c103_1)).setCell ⟨gb104, 2, none⟩ (.slice A103_2 ((rd_T56 l0_1 x3_2).f2).length c103_2)).heap[gb104]? = some (.cells #[.string ((rd_T56 l0_1 x3_2).f0), .slice A103_1 ((rd_T56 l0_1 x3_2).f1).length c103_1, .slice A103_2 ((rd_T56 l0_1 x3_2).f2).length c103_2] 56 (0, 0))) := ⟨by (with_reducible repeat (first | refine blk_drewN ?_ _ | refine blk_drew ?_ | refine blk_alloc ?_ _)); refine blk_put (cs := #[.string ((rd_T56 l0_1 x3_2).f0), .slice A103_1 ((rd_T56 l0_1 x3_2).f1).length c103_1, .slice none 0 0]) ?_ 2 _ rfl; (with_reducible repeat (first | refine blk_drewN ?_ _ | refine blk_drew ?_ | refine blk_alloc ?_ _)); refine blk_put (cs := #[.string ((rd_T56 l0_1 x3_2).f0), .slice none 0 0, .slice none 0 0]) ?_ 1 _ rfl; (with_reducible repeat (first | refine blk_drewN ?_ _ | refine blk_drew ?_ | refine blk_alloc ?_ _)); refine blk_put (cs := #[.string (⟨#[]⟩ : ByteArray), .slice none 0 0, .slice none 0 0]) ?_ 0 _ rfl; (with_reducible repeat (first | refine blk_drewN ?_ _ | refine blk_drew ?_ | refine blk_alloc ?_ _)); exact BK104.1⟩
            have n2_ : Aside0 (Below w.heap.size w (((w13.setCell ⟨gb104, 0, none⟩ (.string ((rd_T56 l0_1 x3_2).f0))).setCell ⟨gb104, 1, none⟩ (.slice A103_1 ((rd_T56 l0_1 x3_2).f1).length c103_1)).setCell ⟨gb104, 2, none⟩ (.slice A103_2 ((rd_T56 l0_1 x3_2).f2).length c103_2))) := ⟨pY29⟩
            (try clear BK101)
            (try clear BK104)
            (try clear HB)
            generalize (((w13.setCell ⟨gb104, 0, none⟩ (.string ((rd_T56 l0_1 x3_2).f0))).setCell ⟨gb104, 1, none⟩ (.slice A103_1 ((rd_T56 l0_1 x3_2).f1).length c103_1)).setCell ⟨gb104, 2, none⟩ (.slice A103_2 ((rd_T56 l0_1 x3_2).f2).length c103_2)) = w37 at n0_ n1_ n2_ ⊢
            have BK101 := n0_
            have BK104 := n1_
            have HB := n2_
            clear n0_ n1_ n2_
            have n0_ := Aside0.mk (blk_drew BK101.1)
            have n1_ := Aside0.mk (blk_drew BK104.1)
            have n2_ := Aside0.mk (below_drew1 HB.1)
            clear BK101
            clear BK104
            clear HB
            have BK101 := n0_
            have BK104 := n1_
            have HB := n2_
            clear n0_ n1_ n2_
            refine start_ (n := 36) (S := fun w' => w'.cell? ⟨gb104, 0, none⟩ = some (.string ((rd_T56 l0_1 x3_2).f0)) ∧ w'.cell? ⟨gb104, 1, none⟩ = some (.slice A103_1 ((rd_T56 l0_1 x3_2).f1).length c103_1) ∧ w'.cell? ⟨gb104, 2, none⟩ = some (.slice A103_2 ((rd_T56 l0_1 x3_2).f2).length c103_2) ∧ w'.cell? ⟨gb101, 0, none⟩ = some (.slice A0_0 l0_0.length c0_0) ∧ w'.cell? ⟨gb101, 1, none⟩ = some (.slice (some ad103) l0_1.length c0_1)) (ds := []) #[ff,ff,ff,ff,ff,ff,ff,ff,ff,ff,ff,ff,ff,ff,ff,ff,ff,ff,ff,ff,ff,ff,ff,ff,ff,ff,ff,ff,ff,ff,ff,ff,ff,ff,ff,ff] (by kernel_rfl) rfl rfl ⟨(blk_cell BK104.1 0).trans rfl, (blk_cell BK104.1 1).trans rfl, (blk_cell BK104.1 2).trans rfl, (blk_cell BK101.1 0).trans rfl, (blk_cell BK101.1 1).trans rfl⟩ (fun hHeld => ?_); refine with_tabW spec_ShareBookOk.tab7 spec_ShareBookOk.bits7 (fun HT_ HW_ => ?_)
            generalize w37.drew = w38 at BK101 BK104 HB hHeld ⊢
            refine pU (i := 0) (N := some 28) #[tt,ff,ff,ff,ff,ff,ff,ff,ff,ff,ff,ff,ff,ff,ff,ff,ff,ff,ff,ff,ff,ff,ff,ff,ff,ff,ff,ff,ff,ff,ff,ff,ff,ff,ff,ff] ?_
            refine tK5 (i := 1) (N := some 29) #[tt,tt,ff,ff,ff,ff,ff,ff,ff,ff,ff,ff,ff,ff,ff,ff,ff,ff,ff,ff,ff,ff,ff,ff,ff,ff,ff,ff,ff,ff,ff,ff,ff,ff,ff,ff] ?_
            refine one_ (i := 2) (N := some 30) #[tt,tt,tt,ff,ff,ff,ff,ff,ff,ff,ff,ff,ff,ff,ff,ff,ff,ff,ff,ff,ff,ff,ff,ff,ff,ff,ff,ff,ff,ff,ff,ff,ff,ff,ff,ff] rfl rfl (one_of HT_.out (by kernel_rfl)) (by decide) (fun K hK => ?_)
            refine goes_ Try.func70 (by kernel_rfl) rfl #[.string ((rd_T56 l0_1 x3_2).f0)] (by rfl) rfl rfl (pY36) ?_
            with_reducible refine (spec_l1NameOk.calls k2 ((rd_T56 l0_1 x3_2).f0) true _ A16.out).mono ?_
            rintro e w' ⟨rfl, ⟨nd, rfl⟩⟩
            refine ⟨_, rfl, ?_⟩
            refine hK.out _ _ ⟨(blk_cell BK104.1 0).trans rfl, (blk_cell BK104.1 1).trans rfl, (blk_cell BK104.1 2).trans rfl, (blk_cell BK101.1 0).trans rfl, (blk_cell BK101.1 1).trans rfl⟩ (fun hHeld => ?_)
            clear hK K
            refine norm_ (a' := ?_) ?_ ?_
            rotate_left
            ·show Act.put _ (some 30) _ = _
             simp only [pW]
             rfl
            refine pU (i := 3) (N := some 31) #[tt,tt,tt,tt,ff,ff,ff,ff,ff,ff,ff,ff,ff,ff,ff,ff,ff,ff,ff,ff,ff,ff,ff,ff,ff,ff,ff,ff,ff,ff,ff,ff,ff,ff,ff,ff] ?_
            refine pU (i := 4) (N := some 32) #[tt,tt,tt,tt,tt,ff,ff,ff,ff,ff,ff,ff,ff,ff,ff,ff,ff,ff,ff,ff,ff,ff,ff,ff,ff,ff,ff,ff,ff,ff,ff,ff,ff,ff,ff,ff] ?_
            refine pU (i := 5) (N := some 33) #[tt,tt,tt,tt,tt,tt,ff,ff,ff,ff,ff,ff,ff,ff,ff,ff,ff,ff,ff,ff,ff,ff,ff,ff,ff,ff,ff,ff,ff,ff,ff,ff,ff,ff,ff,ff] ?_
            refine pU (i := 6) (N := some 34) #[tt,tt,tt,tt,tt,tt,tt,ff,ff,ff,ff,ff,ff,ff,ff,ff,ff,ff,ff,ff,ff,ff,ff,ff,ff,ff,ff,ff,ff,ff,ff,ff,ff,ff,ff,ff] ?_
            refine pU (i := 7) (N := some 35) #[tt,tt,tt,tt,tt,tt,tt,tt,ff,ff,ff,ff,ff,ff,ff,ff,ff,ff,ff,ff,ff,ff,ff,ff,ff,ff,ff,ff,ff,ff,ff,ff,ff,ff,ff,ff] ?_
            refine pV (i := 8) (N := some 36) #[tt,tt,tt,tt,tt,tt,tt,tt,tt,ff,ff,ff,ff,ff,ff,ff,ff,ff,ff,ff,ff,ff,ff,ff,ff,ff,ff,ff,ff,ff,ff,ff,ff,ff,ff,ff] ?_
            refine pV (i := 9) (N := some 37) #[tt,tt,tt,tt,tt,tt,tt,tt,tt,tt,ff,ff,ff,ff,ff,ff,ff,ff,ff,ff,ff,ff,ff,ff,ff,ff,ff,ff,ff,ff,ff,ff,ff,ff,ff,ff] ?_
            refine pV (i := 10) (N := some 38) #[tt,tt,tt,tt,tt,tt,tt,tt,tt,tt,tt,ff,ff,ff,ff,ff,ff,ff,ff,ff,ff,ff,ff,ff,ff,ff,ff,ff,ff,ff,ff,ff,ff,ff,ff,ff] ?_
            refine pV (i := 11) (N := some 39) #[tt,tt,tt,tt,tt,tt,tt,tt,tt,tt,tt,tt,ff,ff,ff,ff,ff,ff,ff,ff,ff,ff,ff,ff,ff,ff,ff,ff,ff,ff,ff,ff,ff,ff,ff,ff] ?_
            refine pV (i := 12) (N := some 40) #[tt,tt,tt,tt,tt,tt,tt,tt,tt,tt,tt,tt,tt,ff,ff,ff,ff,ff,ff,ff,ff,ff,ff,ff,ff,ff,ff,ff,ff,ff,ff,ff,ff,ff,ff,ff] ?_
            refine pV (i := 13) (N := some 41) #[tt,tt,tt,tt,tt,tt,tt,tt,tt,tt,tt,tt,tt,tt,ff,ff,ff,ff,ff,ff,ff,ff,ff,ff,ff,ff,ff,ff,ff,ff,ff,ff,ff,ff,ff,ff] ?_
            refine pV (i := 14) (N := some 42) #[tt,tt,tt,tt,tt,tt,tt,tt,tt,tt,tt,tt,tt,tt,tt,ff,ff,ff,ff,ff,ff,ff,ff,ff,ff,ff,ff,ff,ff,ff,ff,ff,ff,ff,ff,ff] ?_
            refine pV (i := 15) (N := some 43) #[tt,tt,tt,tt,tt,tt,tt,tt,tt,tt,tt,tt,tt,tt,tt,tt,ff,ff,ff,ff,ff,ff,ff,ff,ff,ff,ff,ff,ff,ff,ff,ff,ff,ff,ff,ff] ?_
            refine pV (i := 16) (N := some 44) #[tt,tt,tt,tt,tt,tt,tt,tt,tt,tt,tt,tt,tt,tt,tt,tt,tt,ff,ff,ff,ff,ff,ff,ff,ff,ff,ff,ff,ff,ff,ff,ff,ff,ff,ff,ff] ?_
            refine pV (i := 17) (N := some 45) #[tt,tt,tt,tt,tt,tt,tt,tt,tt,tt,tt,tt,tt,tt,tt,tt,tt,tt,ff,ff,ff,ff,ff,ff,ff,ff,ff,ff,ff,ff,ff,ff,ff,ff,ff,ff] ?_
            refine pU (i := 18) (N := some 46) #[tt,tt,tt,tt,tt,tt,tt,tt,tt,tt,tt,tt,tt,tt,tt,tt,tt,tt,tt,ff,ff,ff,ff,ff,ff,ff,ff,ff,ff,ff,ff,ff,ff,ff,ff,ff] ?_
            refine pU (i := 19) (N := some 47) #[tt,tt,tt,tt,tt,tt,tt,tt,tt,tt,tt,tt,tt,tt,tt,tt,tt,tt,tt,tt,ff,ff,ff,ff,ff,ff,ff,ff,ff,ff,ff,ff,ff,ff,ff,ff] ?_
            refine pU (i := 20) (N := some 48) #[tt,tt,tt,tt,tt,tt,tt,tt,tt,tt,tt,tt,tt,tt,tt,tt,tt,tt,tt,tt,tt,ff,ff,ff,ff,ff,ff,ff,ff,ff,ff,ff,ff,ff,ff,ff] ?_
            refine pU (i := 21) (N := some 49) #[tt,tt,tt,tt,tt,tt,tt,tt,tt,tt,tt,tt,tt,tt,tt,tt,tt,tt,tt,tt,tt,tt,ff,ff,ff,ff,ff,ff,ff,ff,ff,ff,ff,ff,ff,ff] ?_
            refine pU (i := 23) (N := some 51) #[tt,tt,tt,tt,tt,tt,tt,tt,tt,tt,tt,tt,tt,tt,tt,tt,tt,tt,tt,tt,tt,tt,ff,tt,ff,ff,ff,ff,ff,ff,ff,ff,ff,ff,ff,ff] ?_
            refine tK5 (i := 22) (N := some 50) #[tt,tt,tt,tt,tt,tt,tt,tt,tt,tt,tt,tt,tt,tt,tt,tt,tt,tt,tt,tt,tt,tt,tt,tt,ff,ff,ff,ff,ff,ff,ff,ff,ff,ff,ff,ff] ?_
            refine tK5 (i := 24) (N := some 52) #[tt,tt,tt,tt,tt,tt,tt,tt,tt,tt,tt,tt,tt,tt,tt,tt,tt,tt,tt,tt,tt,tt,tt,tt,tt,ff,ff,ff,ff,ff,ff,ff,ff,ff,ff,ff] ?_
            refine one_ (i := 25) (N := some 53) #[tt,tt,tt,tt,tt,tt,tt,tt,tt,tt,tt,tt,tt,tt,tt,tt,tt,tt,tt,tt,tt,tt,tt,tt,tt,tt,ff,ff,ff,ff,ff,ff,ff,ff,ff,ff] rfl rfl (one_of HT_.out (by kernel_rfl)) (by decide) (fun K hK => ?_)
            refine goes_ Try.func71 (by kernel_rfl) rfl #[.slice A103_2 ((rd_T56 l0_1 x3_2).f2).length c103_2, .slice A0_0 l0_0.length c0_0] (by rfl) rfl rfl (pY36) ?_
            with_reducible refine (spec_l1NamesOk.calls k2 _ _ ((rd_T56 l0_1 x3_2).f2) _ _ l0_0 false _ ?side1 ?side2 ?side3 ?side4 A32.out).mono ?_
            (case side1 => exact pC (Kd.C_below HR103_2.1 (pY29)))
            (case side2 => exact HC103_2.1)
            (case side3 => exact pC (Kd.C_below HR0_0.1 (pY29)))
            (case side4 => exact HC0_0.1)
            rintro e w' ⟨rfl, ⟨nd, rfl⟩⟩
            refine ⟨_, rfl, ?_⟩
            refine hK.out _ _ ⟨(blk_cell BK104.1 0).trans rfl, (blk_cell BK104.1 1).trans rfl, (blk_cell BK104.1 2).trans rfl, (blk_cell BK101.1 0).trans rfl, (blk_cell BK101.1 1).trans rfl⟩ (fun hHeld => ?_)
            clear hK K
            refine norm_ (a' := ?_) ?_ ?_
            rotate_left
            ·show Act.put _ (some 53) _ = _
             simp only [pW]
             rfl
            refine pU (i := 26) (N := some 54) #[tt,tt,tt,tt,tt,tt,tt,tt,tt,tt,tt,tt,tt,tt,tt,tt,tt,tt,tt,tt,tt,tt,tt,tt,tt,tt,tt,ff,ff,ff,ff,ff,ff,ff,ff,ff] ?_
            refine pU (i := 27) (N := some 55) #[tt,tt,tt,tt,tt,tt,tt,tt,tt,tt,tt,tt,tt,tt,tt,tt,tt,tt,tt,tt,tt,tt,tt,tt,tt,tt,tt,tt,ff,ff,ff,ff,ff,ff,ff,ff] ?_
            refine pU (i := 28) (N := some 56) #[tt,tt,tt,tt,tt,tt,tt,tt,tt,tt,tt,tt,tt,tt,tt,tt,tt,tt,tt,tt,tt,tt,tt,tt,tt,tt,tt,tt,tt,ff,ff,ff,ff,ff,ff,ff] ?_
            refine pV (i := 29) (N := some 57) #[tt,tt,tt,tt,tt,tt,tt,tt,tt,tt,tt,tt,tt,tt,tt,tt,tt,tt,tt,tt,tt,tt,tt,tt,tt,tt,tt,tt,tt,tt,ff,ff,ff,ff,ff,ff] ?_
            refine pV (i := 30) (N := some 58) #[tt,tt,tt,tt,tt,tt,tt,tt,tt,tt,tt,tt,tt,tt,tt,tt,tt,tt,tt,tt,tt,tt,tt,tt,tt,tt,tt,tt,tt,tt,tt,ff,ff,ff,ff,ff] ?_
            refine pV (i := 31) (N := some 59) #[tt,tt,tt,tt,tt,tt,tt,tt,tt,tt,tt,tt,tt,tt,tt,tt,tt,tt,tt,tt,tt,tt,tt,tt,tt,tt,tt,tt,tt,tt,tt,tt,ff,ff,ff,ff] ?_
            refine pV (i := 32) (N := some 60) #[tt,tt,tt,tt,tt,tt,tt,tt,tt,tt,tt,tt,tt,tt,tt,tt,tt,tt,tt,tt,tt,tt,tt,tt,tt,tt,tt,tt,tt,tt,tt,tt,tt,ff,ff,ff] ?_
            refine pV (i := 33) (N := some 61) #[tt,tt,tt,tt,tt,tt,tt,tt,tt,tt,tt,tt,tt,tt,tt,tt,tt,tt,tt,tt,tt,tt,tt,tt,tt,tt,tt,tt,tt,tt,tt,tt,tt,tt,ff,ff] ?_
            refine pV (i := 34) (N := some 62) #[tt,tt,tt,tt,tt,tt,tt,tt,tt,tt,tt,tt,tt,tt,tt,tt,tt,tt,tt,tt,tt,tt,tt,tt,tt,tt,tt,tt,tt,tt,tt,tt,tt,tt,tt,ff] ?_
            refine pU (i := 35) (N := some 63) #[tt,tt,tt,tt,tt,tt,tt,tt,tt,tt,tt,tt,tt,tt,tt,tt,tt,tt,tt,tt,tt,tt,tt,tt,tt,tt,tt,tt,tt,tt,tt,tt,tt,tt,tt,tt] ?_
            refine done_ (done_of HT_.out (by kernel_rfl)) ?_
            try go_wp2
            go_meet
            case rel => exact ⟨_, (true), (pY51), H', ⟨by have := HJ1.out; have := HK2.out; first | omega | exact Nat.le_refl _⟩, ⟨by (with_reducible repeat (first | refine blk_drewN ?_ _ | refine blk_drew ?_ | refine blk_alloc ?_ _)); exact BK101.1⟩, ⟨by (with_reducible repeat (first | refine blk_drewN ?_ _ | refine blk_drew ?_ | refine blk_alloc ?_ _)); exact BK104.1⟩, ⟨pY29⟩⟩
         ·replace c17 := Bool.eq_false_iff.mpr c17
          subst c17
          have H1 : (spec_ShareBookOk.j2 k2 x3_2 true l0_0 l0_1 ((rd_T56 l0_1 x3_2).f0) ((rd_T56 l0_1 x3_2).f1) ((rd_T56 l0_1 x3_2).f2)) = some r := by rw [if_neg (show ¬ (false = true) by decide)] at H; exact H
          clear H
          have H := H1
          clear H1
          have H' := Aside0.mk H
          clear H
          try go_wp2
          have n0_ : Aside0 ((((w13.setCell ⟨gb104, 0, none⟩ (.string ((rd_T56 l0_1 x3_2).f0))).setCell ⟨gb104, 1, none⟩ (.slice A103_1 ((rd_T56 l0_1 x3_2).f1).length c103_1)).setCell ⟨gb104, 2, none⟩ (.slice A103_2 ((rd_T56 l0_1 x3_2).f2).length c103_2)).heap[gb101]? = some (.cells #[.slice A0_0 l0_0.length c0_0, .slice (some ad103) l0_1.length c0_1] 31 (0, 0))) := ⟨by (with_reducible repeat (first | refine blk_drewN ?_ _ | refine blk_drew ?_ | refine blk_alloc ?_ _)); refine blk_far ?_ NB101_104.1 _; (with_reducible repeat (first | refine blk_drewN ?_ _ | refine blk_drew ?_ | refine blk_alloc ?_ _)); refine blk_far ?_ NB101_104.1 _; (with_reducible repeat (first | refine blk_drewN ?_ _ | refine blk_drew ?_ | refine blk_alloc ?_ _)); refine blk_far ?_ NB101_104.1 _; (with_reducible repeat (first | refine blk_drewN ?_ _ | refine blk_drew ?_ | refine blk_alloc ?_ _)); exact BK101.1⟩
          have n1_ : Aside0 ((((w13.setCell ⟨gb104, 0, none⟩ (.string ((rd_T56 l0_1 x3_2).f0))).setCell ⟨gb104, 1, none⟩ (.slice A103_1 ((rd_T56 l0_1 x3_2).f1).length c103_1)).setCell ⟨gb104, 2, none⟩ (.slice A103_2 ((rd_T56 l0_1 x3_2).f2).length c103_2)).heap[gb104]? = some (.cells #[.string ((rd_T56 l0_1 x3_2).f0), .slice A103_1 ((rd_T56 l0_1 x3_2).f1).length c103_1, .slice A103_2 ((rd_T56 l0_1 x3_2).f2).length c103_2] 56 (0, 0))) := ⟨by (with_reducible repeat (first | refine blk_drewN ?_ _ | refine blk_drew ?_ | refine blk_alloc ?_ _)); refine blk_put (cs := #[.string ((rd_T56 l0_1 x3_2).f0), .slice A103_1 ((rd_T56 l0_1 x3_2).f1).length c103_1, .slice none 0 0]) ?_ 2 _ rfl; (with_reducible repeat (first | refine blk_drewN ?_ _ | refine blk_drew ?_ | refine blk_alloc ?_ _)); refine blk_put (cs := #[.string ((rd_T56 l0_1 x3_2).f0), .slice none 0 0, .slice none 0 0]) ?_ 1 _ rfl; (with_reducible repeat (first | refine blk_drewN ?_ _ | refine blk_drew ?_ | refine blk_alloc ?_ _)); refine blk_put (cs := #[.string (⟨#[]⟩ : ByteArray), .slice none 0 0, .slice none 0 0]) ?_ 0 _ rfl; (with_reducible repeat (first | refine blk_drewN ?_ _ | refine blk_drew ?_ | refine blk_alloc ?_ _)); exact BK104.1⟩
          have n2_ : Aside0 (Below w.heap.size w (((w13.setCell ⟨gb104, 0, none⟩ (.string ((rd_T56 l0_1 x3_2).f0))).setCell ⟨gb104, 1, none⟩ (.slice A103_1 ((rd_T56 l0_1 x3_2).f1).length c103_1)).setCell ⟨gb104, 2, none⟩ (.slice A103_2 ((rd_T56 l0_1 x3_2).f2).length c103_2))) := ⟨pY29⟩
          (try clear BK101)
          (try clear BK104)
          (try clear HB)
          generalize (((w13.setCell ⟨gb104, 0, none⟩ (.string ((rd_T56 l0_1 x3_2).f0))).setCell ⟨gb104, 1, none⟩ (.slice A103_1 ((rd_T56 l0_1 x3_2).f1).length c103_1)).setCell ⟨gb104, 2, none⟩ (.slice A103_2 ((rd_T56 l0_1 x3_2).f2).length c103_2)) = w39 at n0_ n1_ n2_ ⊢
          have BK101 := n0_
          have BK104 := n1_
          have HB := n2_
          clear n0_ n1_ n2_
          have n0_ := Aside0.mk (blk_drew BK101.1)
          have n1_ := Aside0.mk (blk_drew BK104.1)
          have n2_ := Aside0.mk (below_drew1 HB.1)
          clear BK101
          clear BK104
          clear HB
          have BK101 := n0_
          have BK104 := n1_
          have HB := n2_
          clear n0_ n1_ n2_
          refine start_ (n := 36) (S := fun w' => w'.cell? ⟨gb104, 0, none⟩ = some (.string ((rd_T56 l0_1 x3_2).f0)) ∧ w'.cell? ⟨gb104, 1, none⟩ = some (.slice A103_1 ((rd_T56 l0_1 x3_2).f1).length c103_1) ∧ w'.cell? ⟨gb104, 2, none⟩ = some (.slice A103_2 ((rd_T56 l0_1 x3_2).f2).length c103_2)) (ds := []) #[ff,ff,ff,ff,ff,ff,ff,ff,ff,ff,ff,ff,ff,ff,ff,ff,ff,ff,ff,ff,ff,ff,ff,ff,ff,ff,ff,ff,ff,ff,ff,ff,ff,ff,ff,ff] (by kernel_rfl) rfl rfl ⟨(blk_cell BK104.1 0).trans rfl, (blk_cell BK104.1 1).trans rfl, (blk_cell BK104.1 2).trans rfl⟩ (fun hHeld => ?_); refine with_tabW spec_ShareBookOk.tab7 spec_ShareBookOk.bits7 (fun HT_ HW_ => ?_)
          generalize w39.drew = w40 at BK101 BK104 HB hHeld ⊢
          refine pU (i := 0) (N := some 28) #[tt,ff,ff,ff,ff,ff,ff,ff,ff,ff,ff,ff,ff,ff,ff,ff,ff,ff,ff,ff,ff,ff,ff,ff,ff,ff,ff,ff,ff,ff,ff,ff,ff,ff,ff,ff] ?_
          refine tK3 (i := 1) (N := some 29) #[tt,tt,ff,ff,ff,ff,ff,ff,ff,ff,ff,ff,ff,ff,ff,ff,ff,ff,ff,ff,ff,ff,ff,ff,ff,ff,ff,ff,ff,ff,ff,ff,ff,ff,ff,ff] ?_
          refine one_ (i := 2) (N := some 30) #[tt,tt,tt,ff,ff,ff,ff,ff,ff,ff,ff,ff,ff,ff,ff,ff,ff,ff,ff,ff,ff,ff,ff,ff,ff,ff,ff,ff,ff,ff,ff,ff,ff,ff,ff,ff] rfl rfl (one_of HT_.out (by kernel_rfl)) (by decide) (fun K hK => ?_)
          refine goes_ Try.func70 (by kernel_rfl) rfl #[.string ((rd_T56 l0_1 x3_2).f0)] (by rfl) rfl rfl (pY36) ?_
          with_reducible refine (spec_l1NameOk.calls k2 ((rd_T56 l0_1 x3_2).f0) false _ A16.out).mono ?_
          rintro e w' ⟨rfl, ⟨nd, rfl⟩⟩
          refine ⟨_, rfl, ?_⟩
          refine hK.out _ _ ⟨(blk_cell BK104.1 0).trans rfl, (blk_cell BK104.1 1).trans rfl, (blk_cell BK104.1 2).trans rfl⟩ (fun hHeld => ?_)
          clear hK K
          refine norm_ (a' := ?_) ?_ ?_
          rotate_left
          ·show Act.put _ (some 30) _ = _
           simp only [pW]
           rfl
          refine pU (i := 3) (N := some 31) #[tt,tt,tt,tt,ff,ff,ff,ff,ff,ff,ff,ff,ff,ff,ff,ff,ff,ff,ff,ff,ff,ff,ff,ff,ff,ff,ff,ff,ff,ff,ff,ff,ff,ff,ff,ff] ?_
          refine pU (i := 4) (N := some 32) #[tt,tt,tt,tt,tt,ff,ff,ff,ff,ff,ff,ff,ff,ff,ff,ff,ff,ff,ff,ff,ff,ff,ff,ff,ff,ff,ff,ff,ff,ff,ff,ff,ff,ff,ff,ff] ?_
          refine pV (i := 5) (N := some 33) #[tt,tt,tt,tt,tt,tt,ff,ff,ff,ff,ff,ff,ff,ff,ff,ff,ff,ff,ff,ff,ff,ff,ff,ff,ff,ff,ff,ff,ff,ff,ff,ff,ff,ff,ff,ff] ?_
          refine pV (i := 6) (N := some 34) #[tt,tt,tt,tt,tt,tt,tt,ff,ff,ff,ff,ff,ff,ff,ff,ff,ff,ff,ff,ff,ff,ff,ff,ff,ff,ff,ff,ff,ff,ff,ff,ff,ff,ff,ff,ff] ?_
          refine pV (i := 7) (N := some 35) #[tt,tt,tt,tt,tt,tt,tt,tt,ff,ff,ff,ff,ff,ff,ff,ff,ff,ff,ff,ff,ff,ff,ff,ff,ff,ff,ff,ff,ff,ff,ff,ff,ff,ff,ff,ff] ?_
          refine pV (i := 8) (N := some 36) #[tt,tt,tt,tt,tt,tt,tt,tt,tt,ff,ff,ff,ff,ff,ff,ff,ff,ff,ff,ff,ff,ff,ff,ff,ff,ff,ff,ff,ff,ff,ff,ff,ff,ff,ff,ff] ?_
          refine pV (i := 9) (N := some 37) #[tt,tt,tt,tt,tt,tt,tt,tt,tt,tt,ff,ff,ff,ff,ff,ff,ff,ff,ff,ff,ff,ff,ff,ff,ff,ff,ff,ff,ff,ff,ff,ff,ff,ff,ff,ff] ?_
          refine pV (i := 10) (N := some 38) #[tt,tt,tt,tt,tt,tt,tt,tt,tt,tt,tt,ff,ff,ff,ff,ff,ff,ff,ff,ff,ff,ff,ff,ff,ff,ff,ff,ff,ff,ff,ff,ff,ff,ff,ff,ff] ?_
          refine pV (i := 11) (N := some 39) #[tt,tt,tt,tt,tt,tt,tt,tt,tt,tt,tt,tt,ff,ff,ff,ff,ff,ff,ff,ff,ff,ff,ff,ff,ff,ff,ff,ff,ff,ff,ff,ff,ff,ff,ff,ff] ?_
          refine pV (i := 12) (N := some 40) #[tt,tt,tt,tt,tt,tt,tt,tt,tt,tt,tt,tt,tt,ff,ff,ff,ff,ff,ff,ff,ff,ff,ff,ff,ff,ff,ff,ff,ff,ff,ff,ff,ff,ff,ff,ff] ?_
          refine pV (i := 13) (N := some 41) #[tt,tt,tt,tt,tt,tt,tt,tt,tt,tt,tt,tt,tt,tt,ff,ff,ff,ff,ff,ff,ff,ff,ff,ff,ff,ff,ff,ff,ff,ff,ff,ff,ff,ff,ff,ff] ?_
          refine pV (i := 14) (N := some 42) #[tt,tt,tt,tt,tt,tt,tt,tt,tt,tt,tt,tt,tt,tt,tt,ff,ff,ff,ff,ff,ff,ff,ff,ff,ff,ff,ff,ff,ff,ff,ff,ff,ff,ff,ff,ff] ?_
          refine pV (i := 15) (N := some 43) #[tt,tt,tt,tt,tt,tt,tt,tt,tt,tt,tt,tt,tt,tt,tt,tt,ff,ff,ff,ff,ff,ff,ff,ff,ff,ff,ff,ff,ff,ff,ff,ff,ff,ff,ff,ff] ?_
          refine pV (i := 16) (N := some 44) #[tt,tt,tt,tt,tt,tt,tt,tt,tt,tt,tt,tt,tt,tt,tt,tt,tt,ff,ff,ff,ff,ff,ff,ff,ff,ff,ff,ff,ff,ff,ff,ff,ff,ff,ff,ff] ?_
          refine pV (i := 17) (N := some 45) #[tt,tt,tt,tt,tt,tt,tt,tt,tt,tt,tt,tt,tt,tt,tt,tt,tt,tt,ff,ff,ff,ff,ff,ff,ff,ff,ff,ff,ff,ff,ff,ff,ff,ff,ff,ff] ?_
          refine pV (i := 18) (N := some 46) #[tt,tt,tt,tt,tt,tt,tt,tt,tt,tt,tt,tt,tt,tt,tt,tt,tt,tt,tt,ff,ff,ff,ff,ff,ff,ff,ff,ff,ff,ff,ff,ff,ff,ff,ff,ff] ?_
          refine pU (i := 19) (N := some 47) #[tt,tt,tt,tt,tt,tt,tt,tt,tt,tt,tt,tt,tt,tt,tt,tt,tt,tt,tt,tt,ff,ff,ff,ff,ff,ff,ff,ff,ff,ff,ff,ff,ff,ff,ff,ff] ?_
          refine pU (i := 20) (N := some 48) #[tt,tt,tt,tt,tt,tt,tt,tt,tt,tt,tt,tt,tt,tt,tt,tt,tt,tt,tt,tt,tt,ff,ff,ff,ff,ff,ff,ff,ff,ff,ff,ff,ff,ff,ff,ff] ?_
          refine pV (i := 21) (N := some 49) #[tt,tt,tt,tt,tt,tt,tt,tt,tt,tt,tt,tt,tt,tt,tt,tt,tt,tt,tt,tt,tt,tt,ff,ff,ff,ff,ff,ff,ff,ff,ff,ff,ff,ff,ff,ff] ?_
          refine pV (i := 22) (N := some 50) #[tt,tt,tt,tt,tt,tt,tt,tt,tt,tt,tt,tt,tt,tt,tt,tt,tt,tt,tt,tt,tt,tt,tt,ff,ff,ff,ff,ff,ff,ff,ff,ff,ff,ff,ff,ff] ?_
          refine pV (i := 23) (N := some 51) #[tt,tt,tt,tt,tt,tt,tt,tt,tt,tt,tt,tt,tt,tt,tt,tt,tt,tt,tt,tt,tt,tt,tt,tt,ff,ff,ff,ff,ff,ff,ff,ff,ff,ff,ff,ff] ?_
          refine pV (i := 24) (N := some 52) #[tt,tt,tt,tt,tt,tt,tt,tt,tt,tt,tt,tt,tt,tt,tt,tt,tt,tt,tt,tt,tt,tt,tt,tt,tt,ff,ff,ff,ff,ff,ff,ff,ff,ff,ff,ff] ?_
          refine pV (i := 25) (N := some 53) #[tt,tt,tt,tt,tt,tt,tt,tt,tt,tt,tt,tt,tt,tt,tt,tt,tt,tt,tt,tt,tt,tt,tt,tt,tt,tt,ff,ff,ff,ff,ff,ff,ff,ff,ff,ff] ?_
          refine pV (i := 26) (N := some 54) #[tt,tt,tt,tt,tt,tt,tt,tt,tt,tt,tt,tt,tt,tt,tt,tt,tt,tt,tt,tt,tt,tt,tt,tt,tt,tt,tt,ff,ff,ff,ff,ff,ff,ff,ff,ff] ?_
          refine pU (i := 27) (N := some 55) #[tt,tt,tt,tt,tt,tt,tt,tt,tt,tt,tt,tt,tt,tt,tt,tt,tt,tt,tt,tt,tt,tt,tt,tt,tt,tt,tt,tt,ff,ff,ff,ff,ff,ff,ff,ff] ?_
          refine pU (i := 28) (N := some 56) #[tt,tt,tt,tt,tt,tt,tt,tt,tt,tt,tt,tt,tt,tt,tt,tt,tt,tt,tt,tt,tt,tt,tt,tt,tt,tt,tt,tt,tt,ff,ff,ff,ff,ff,ff,ff] ?_
          refine pV (i := 29) (N := some 57) #[tt,tt,tt,tt,tt,tt,tt,tt,tt,tt,tt,tt,tt,tt,tt,tt,tt,tt,tt,tt,tt,tt,tt,tt,tt,tt,tt,tt,tt,tt,ff,ff,ff,ff,ff,ff] ?_
          refine pV (i := 30) (N := some 58) #[tt,tt,tt,tt,tt,tt,tt,tt,tt,tt,tt,tt,tt,tt,tt,tt,tt,tt,tt,tt,tt,tt,tt,tt,tt,tt,tt,tt,tt,tt,tt,ff,ff,ff,ff,ff] ?_
          refine pV (i := 31) (N := some 59) #[tt,tt,tt,tt,tt,tt,tt,tt,tt,tt,tt,tt,tt,tt,tt,tt,tt,tt,tt,tt,tt,tt,tt,tt,tt,tt,tt,tt,tt,tt,tt,tt,ff,ff,ff,ff] ?_
          refine pV (i := 32) (N := some 60) #[tt,tt,tt,tt,tt,tt,tt,tt,tt,tt,tt,tt,tt,tt,tt,tt,tt,tt,tt,tt,tt,tt,tt,tt,tt,tt,tt,tt,tt,tt,tt,tt,tt,ff,ff,ff] ?_
          refine pV (i := 33) (N := some 61) #[tt,tt,tt,tt,tt,tt,tt,tt,tt,tt,tt,tt,tt,tt,tt,tt,tt,tt,tt,tt,tt,tt,tt,tt,tt,tt,tt,tt,tt,tt,tt,tt,tt,tt,ff,ff] ?_
          refine pV (i := 34) (N := some 62) #[tt,tt,tt,tt,tt,tt,tt,tt,tt,tt,tt,tt,tt,tt,tt,tt,tt,tt,tt,tt,tt,tt,tt,tt,tt,tt,tt,tt,tt,tt,tt,tt,tt,tt,tt,ff] ?_
          refine pU (i := 35) (N := some 63) #[tt,tt,tt,tt,tt,tt,tt,tt,tt,tt,tt,tt,tt,tt,tt,tt,tt,tt,tt,tt,tt,tt,tt,tt,tt,tt,tt,tt,tt,tt,tt,tt,tt,tt,tt,tt] ?_
          refine done_ (done_of HT_.out (by kernel_rfl)) ?_
          try go_wp2
          go_meet
          case rel => exact ⟨_, (true), (pY51), H', ⟨by have := HJ1.out; have := HK2.out; first | omega | exact Nat.le_refl _⟩, ⟨by (with_reducible repeat (first | refine blk_drewN ?_ _ | refine blk_drew ?_ | refine blk_alloc ?_ _)); exact BK101.1⟩, ⟨by (with_reducible repeat (first | refine blk_drewN ?_ _ | refine blk_drew ?_ | refine blk_alloc ?_ _)); exact BK104.1⟩, ⟨pY29⟩⟩
        case rest =>
         clear HC11
         try clear c1
         try clear p2
         try clear c3
         try clear c7
         try clear c10
         try clear c17
         try clear c33
         obtain ⟨kq, x63_10, rfl, HA, HJ10, BK101, BK104, HB⟩ := hcut
         cases kq with
         | zero => exact absurd HA.out (by simp [spec_ShareBookOk.j2])
         | succ kj10 =>
          have H := HA.out
          clear HA
          simp only [spec_ShareBookOk.j2] at H
          by_cases c41 : x63_10 = true
          ·subst c41
           have H1 : (some false) = some r := by rw [if_pos rfl] at H; exact H
           clear H
           have H := H1
           clear H1
           obtain rfl := Option.some.inj H
           go_wp2
           go_ret
           exact ⟨by first | rfl | (simp [errW_none, errW_some] <;> rfl) | (simp [*, errW_none, errW_some] <;> rfl), pY29⟩
          ·replace c41 := Bool.eq_false_iff.mpr c41
           subst c41
           have H1 : (spec_ShareBookOk.l1 kj10 x3_2 0 l0_0 l0_1 ((rd_T56 l0_1 x3_2).f0) ((rd_T56 l0_1 x3_2).f1) ((rd_T56 l0_1 x3_2).f2)) = some r := by rw [if_neg (show ¬ (false = true) by decide)] at H; exact H
           clear H
           have H := H1
           clear H1
           have H' := Aside0.mk H
           clear H
           go_wp2
           go_loopg [5] kj10 (fun kq v5 w' => ∃ (x5_4 : Int), v5 = .int .i64 x5_4 ∧ Aside0 (spec_ShareBookOk.l1 kq x3_2 x5_4 l0_0 l0_1 ((rd_T56 l0_1 x3_2).f0) ((rd_T56 l0_1 x3_2).f1) ((rd_T56 l0_1 x3_2).f2) = some r) ∧ Aside0 (kq ≤ kj10) ∧ Aside0 (w'.heap[gb101]? = some (.cells #[(.slice A0_0 l0_0.length c0_0), (.slice (some ad103) l0_1.length c0_1)] 31 (0, 0))) ∧ Aside0 (w'.heap[gb104]? = some (.cells #[.string ((rd_T56 l0_1 x3_2).f0), (.slice A103_1 ((rd_T56 l0_1 x3_2).f1).length c103_1), (.slice A103_2 ((rd_T56 l0_1 x3_2).f2).length c103_2)] 56 (0, 0))) ∧ Aside0 (Below w.heap.size w w'))
           case atStart => exact ⟨(0), (pY51), H', ⟨Nat.le_refl _⟩, ⟨by (with_reducible repeat (first | refine blk_drewN ?_ _ | refine blk_drew ?_ | refine blk_alloc ?_ _)); exact BK101.1⟩, ⟨by (with_reducible repeat (first | refine blk_drewN ?_ _ | refine blk_drew ?_ | refine blk_alloc ?_ _)); exact BK104.1⟩, ⟨pY29⟩⟩
           case round =>
            clear H'
            try clear c1
            try clear p2
            try clear c3
            try clear c4
            try clear c7
            try clear c10
            try clear c17
            try clear c33
            try clear c41
            try clear p2
            obtain ⟨x5_4, rfl, HA, HK4, BK101, BK104, HB⟩ := hrel
            cases gk with
            | zero => exact absurd HA.out (by simp [spec_ShareBookOk.l1])
            | succ k4 =>
             have H := HA.out
             clear HA
             simp only [spec_ShareBookOk.l1] at H
             by_cases c42 : x5_4 < x3_2
             ·rw [if_pos c42] at H
              have c42b0 : decide (x5_4 < x3_2) = true := decide_eq_true c42
              clear c42
              by_cases c43 : 0 ≤ x5_4
              ·rw [if_pos c43] at H
               have c43b0 : decide (0 ≤ x5_4) = true := decide_eq_true c43
               clear c43
               by_cases c44 : x5_4 < (l0_1.length : Int)
               ·rw [if_pos c44] at H
                have c44b0 : decide (x5_4 < (l0_1.length : Int)) = true := decide_eq_true c44
                clear c44
                replace H := Option.bind_eq_some_iff.mp H
                obtain ⟨t112, A450, H⟩ := H
                replace H : (if t112 = true then (some false) else (spec_ShareBookOk.l1 k4 x3_2 (wrap64 (x5_4 + 1)) l0_0 l0_1 ((rd_T56 l0_1 x3_2).f0) ((rd_T56 l0_1 x3_2).f1) ((rd_T56 l0_1 x3_2).f2))) = some r := H
                have A45 := Aside0.mk A450
                clear A450
                by_cases c46 : t112 = true
                ·subst c46
                 have H1 : (some false) = some r := by rw [if_pos rfl] at H; exact H
                 clear H
                 have H := H1
                 clear H1
                 obtain rfl := Option.some.inj H
                 try go_wp2
                 have n0_ := Aside0.mk (blk_drew BK101.1)
                 have n1_ := Aside0.mk (blk_drew BK104.1)
                 have n2_ := Aside0.mk (below_drew1 HB.1)
                 clear BK101
                 clear BK104
                 clear HB
                 have BK101 := n0_
                 have BK104 := n1_
                 have HB := n2_
                 clear n0_ n1_ n2_
                 have p111 : 0 ≤ (x5_4 : Int) := of_decide_eq_true (pY50)
                 have q111 : x5_4 < (l0_1.length : Int) := of_decide_eq_true (pY50)
                 obtain ⟨ad111, A111_1, c111_1, A111_2, c111_2, e111, hx111_0, hx111_1, hx111_2, hl111_1, hi111_1, hl111_2, hi111_2⟩ := at_T56 HR0_1.1 x5_4 p111 q111
                 have hw111_2 := hx111_2
                 have hw111_1 := hx111_1
                 have hw111_0 := hx111_0
                 obtain rfl : ad103 = ad111 := (by injection e111)
                 replace hx111_0 := (HB.1.cell (World.block_lt_of_cell? w _ hx111_0)).trans hx111_0
                 replace hx111_1 := (HB.1.cell (World.block_lt_of_cell? w _ hx111_1)).trans hx111_1
                 replace hx111_2 := (HB.1.cell (World.block_lt_of_cell? w _ hx111_2)).trans hx111_2
                 have HR111_1 := Aside0.mk hi111_1
                 have HC111_1 := Aside0.mk hl111_1
                 clear hi111_1 hl111_1
                 have HR111_2 := Aside0.mk hi111_2
                 have HC111_2 := Aside0.mk hl111_2
                 clear hi111_2 hl111_2
                 replace p111 := eq_true p111
                 replace q111 := eq_true q111
                 refine start_ (n := 9) (S := fun w' => w'.cell? ⟨gb104, 0, none⟩ = some (.string ((rd_T56 l0_1 x3_2).f0)) ∧ w'.cell? ⟨gb104, 1, none⟩ = some (.slice A103_1 ((rd_T56 l0_1 x3_2).f1).length c103_1) ∧ w'.cell? ⟨gb104, 2, none⟩ = some (.slice A103_2 ((rd_T56 l0_1 x3_2).f2).length c103_2) ∧ w'.cell? ⟨gb101, 0, none⟩ = some (.slice A0_0 l0_0.length c0_0) ∧ w'.cell? ⟨gb101, 1, none⟩ = some (.slice (some ad103) l0_1.length c0_1) ∧ w'.cell? (ad103.add ((x5_4).toNat * 3)) = some (.string ((rd_T56 l0_1 x5_4).f0)) ∧ w'.cell? ⟨(ad103.add ((x5_4).toNat * 3)).block, (ad103.add ((x5_4).toNat * 3)).off + 1, none⟩ = some (.slice A111_1 ((rd_T56 l0_1 x5_4).f1).length c111_1) ∧ w'.cell? ⟨(ad103.add ((x5_4).toNat * 3)).block, (ad103.add ((x5_4).toNat * 3)).off + 2, none⟩ = some (.slice A111_2 ((rd_T56 l0_1 x5_4).f2).length c111_2)) (ds := []) #[ff,ff,ff,ff,ff,ff,ff,ff,ff] (by kernel_rfl) rfl rfl ⟨(blk_cell BK104.1 0).trans rfl, (blk_cell BK104.1 1).trans rfl, (blk_cell BK104.1 2).trans rfl, (blk_cell BK101.1 0).trans rfl, (blk_cell BK101.1 1).trans rfl, ((HB.1.cell (World.block_lt_of_cell? w _ hw111_0)).trans hw111_0), ((HB.1.cell (World.block_lt_of_cell? w _ hw111_1)).trans hw111_1), ((HB.1.cell (World.block_lt_of_cell? w _ hw111_2)).trans hw111_2)⟩ (fun hHeld => ?_); refine with_tabW spec_ShareBookOk.tab12 spec_ShareBookOk.bits12 (fun HT_ HW_ => ?_)
                 generalize wr.drew = w47 at BK101 BK104 HB HR111_1 HR111_2 hx111_0 hx111_1 hx111_2 hHeld ⊢
                 refine pU (i := 0) (N := some 69) #[tt,ff,ff,ff,ff,ff,ff,ff,ff] ?_
                 refine pU (i := 2) (N := some 71) #[tt,ff,tt,ff,ff,ff,ff,ff,ff] ?_
                 refine pU (i := 4) (N := some 73) #[tt,ff,tt,ff,tt,ff,ff,ff,ff] ?_
                 refine tK8 (i := 1) (N := some 70) #[tt,tt,tt,ff,tt,ff,ff,ff,ff] ?_
                 refine tK8 (i := 3) (N := some 72) #[tt,tt,tt,tt,tt,ff,ff,ff,ff] ?_
                 refine pU (i := 5) (N := some 74) #[tt,tt,tt,tt,tt,tt,ff,ff,ff] ?_
                 refine pU (i := 6) (N := some 75) #[tt,tt,tt,tt,tt,tt,tt,ff,ff] ?_
                 refine tK8 (i := 7) (N := some 76) #[tt,tt,tt,tt,tt,tt,tt,tt,ff] ?_
                 refine one_ (i := 8) (N := some 77) #[tt,tt,tt,tt,tt,tt,tt,tt,tt] rfl rfl (one_of HT_.out (by kernel_rfl)) (by decide) (fun K hK => ?_)
                 refine goes_ Try.func72 (by kernel_rfl) rfl #[.slice A103_1 ((rd_T56 l0_1 x3_2).f1).length c103_1, .slice A111_1 ((rd_T56 l0_1 x5_4).f1).length c111_1] (by rfl) rfl rfl (pY36) ?_
                 with_reducible refine (spec_l1Share.calls k4 _ _ ((rd_T56 l0_1 x3_2).f1) _ _ ((rd_T56 l0_1 x5_4).f1) true _ ?side1 ?side2 ?side3 ?side4 A45.out).mono ?_
                 (case side1 => exact pC (Kd.C_below HR103_1.1 HB.1))
                 (case side2 => exact HC103_1.1)
                 (case side3 => exact pC (Kd.C_below HR111_1.1 HB.1))
                 (case side4 => exact HC111_1.1)
                 rintro e w' ⟨rfl, ⟨nd, rfl⟩⟩
                 refine ⟨_, rfl, ?_⟩
                 refine hK.out _ _ ⟨(blk_cell BK104.1 0).trans rfl, (blk_cell BK104.1 1).trans rfl, (blk_cell BK104.1 2).trans rfl, (blk_cell BK101.1 0).trans rfl, (blk_cell BK101.1 1).trans rfl, ((HB.1.cell (World.block_lt_of_cell? w _ hw111_0)).trans hw111_0), ((HB.1.cell (World.block_lt_of_cell? w _ hw111_1)).trans hw111_1), ((HB.1.cell (World.block_lt_of_cell? w _ hw111_2)).trans hw111_2)⟩ (fun hHeld => ?_)
                 clear hK K
                 refine norm_ (a' := ?_) ?_ ?_
                 rotate_left
                 ·show Act.put _ (some 77) _ = _
                  simp only [pW]
                  rfl
                 refine done_ (done_of HT_.out (by kernel_rfl)) ?_
                 try go_wp2
                 go_ret
                 exact ⟨by first | rfl | (simp [errW_none, errW_some] <;> rfl) | (simp [*, errW_none, errW_some] <;> rfl), pY29⟩
                ·replace c46 := Bool.eq_false_iff.mpr c46
                 subst c46
                 have H1 : (spec_ShareBookOk.l1 k4 x3_2 (wrap64 (x5_4 + 1)) l0_0 l0_1 ((rd_T56 l0_1 x3_2).f0) ((rd_T56 l0_1 x3_2).f1) ((rd_T56 l0_1 x3_2).f2)) = some r := by rw [if_neg (show ¬ (false = true) by decide)] at H; exact H
                 clear H
                 have H := H1
                 clear H1
                 have H' := Aside0.mk H
                 clear H
                 try go_wp2
                 have n0_ := Aside0.mk (blk_drew BK101.1)
                 have n1_ := Aside0.mk (blk_drew BK104.1)
                 have n2_ := Aside0.mk (below_drew1 HB.1)
                 clear BK101
                 clear BK104
                 clear HB
                 have BK101 := n0_
                 have BK104 := n1_
                 have HB := n2_
                 clear n0_ n1_ n2_
                 have p111 : 0 ≤ (x5_4 : Int) := of_decide_eq_true (pY50)
                 have q111 : x5_4 < (l0_1.length : Int) := of_decide_eq_true (pY50)
                 obtain ⟨ad111, A111_1, c111_1, A111_2, c111_2, e111, hx111_0, hx111_1, hx111_2, hl111_1, hi111_1, hl111_2, hi111_2⟩ := at_T56 HR0_1.1 x5_4 p111 q111
                 have hw111_2 := hx111_2
                 have hw111_1 := hx111_1
                 have hw111_0 := hx111_0
                 obtain rfl : ad103 = ad111 := (by injection e111)
                 replace hx111_0 := (HB.1.cell (World.block_lt_of_cell? w _ hx111_0)).trans hx111_0
                 replace hx111_1 := (HB.1.cell (World.block_lt_of_cell? w _ hx111_1)).trans hx111_1
                 replace hx111_2 := (HB.1.cell (World.block_lt_of_cell? w _ hx111_2)).trans hx111_2
                 have HR111_1 := Aside0.mk hi111_1
                 have HC111_1 := Aside0.mk hl111_1
                 clear hi111_1 hl111_1
                 have HR111_2 := Aside0.mk hi111_2
                 have HC111_2 := Aside0.mk hl111_2
                 clear hi111_2 hl111_2
                 replace p111 := eq_true p111
                 replace q111 := eq_true q111
                 refine start_ (n := 9) (S := fun w' => w'.cell? ⟨gb104, 0, none⟩ = some (.string ((rd_T56 l0_1 x3_2).f0)) ∧ w'.cell? ⟨gb104, 1, none⟩ = some (.slice A103_1 ((rd_T56 l0_1 x3_2).f1).length c103_1) ∧ w'.cell? ⟨gb104, 2, none⟩ = some (.slice A103_2 ((rd_T56 l0_1 x3_2).f2).length c103_2) ∧ w'.cell? ⟨gb101, 0, none⟩ = some (.slice A0_0 l0_0.length c0_0) ∧ w'.cell? ⟨gb101, 1, none⟩ = some (.slice (some ad103) l0_1.length c0_1) ∧ w'.cell? (ad103.add ((x5_4).toNat * 3)) = some (.string ((rd_T56 l0_1 x5_4).f0)) ∧ w'.cell? ⟨(ad103.add ((x5_4).toNat * 3)).block, (ad103.add ((x5_4).toNat * 3)).off + 1, none⟩ = some (.slice A111_1 ((rd_T56 l0_1 x5_4).f1).length c111_1) ∧ w'.cell? ⟨(ad103.add ((x5_4).toNat * 3)).block, (ad103.add ((x5_4).toNat * 3)).off + 2, none⟩ = some (.slice A111_2 ((rd_T56 l0_1 x5_4).f2).length c111_2)) (ds := []) #[ff,ff,ff,ff,ff,ff,ff,ff,ff] (by kernel_rfl) rfl rfl ⟨(blk_cell BK104.1 0).trans rfl, (blk_cell BK104.1 1).trans rfl, (blk_cell BK104.1 2).trans rfl, (blk_cell BK101.1 0).trans rfl, (blk_cell BK101.1 1).trans rfl, ((HB.1.cell (World.block_lt_of_cell? w _ hw111_0)).trans hw111_0), ((HB.1.cell (World.block_lt_of_cell? w _ hw111_1)).trans hw111_1), ((HB.1.cell (World.block_lt_of_cell? w _ hw111_2)).trans hw111_2)⟩ (fun hHeld => ?_); refine with_tabW spec_ShareBookOk.tab12 spec_ShareBookOk.bits12 (fun HT_ HW_ => ?_)
                 generalize wr.drew = w48 at BK101 BK104 HB HR111_1 HR111_2 hx111_0 hx111_1 hx111_2 hHeld ⊢
                 refine pU (i := 0) (N := some 69) #[tt,ff,ff,ff,ff,ff,ff,ff,ff] ?_
                 refine pU (i := 2) (N := some 71) #[tt,ff,tt,ff,ff,ff,ff,ff,ff] ?_
                 refine pU (i := 4) (N := some 73) #[tt,ff,tt,ff,tt,ff,ff,ff,ff] ?_
                 refine tK8 (i := 1) (N := some 70) #[tt,tt,tt,ff,tt,ff,ff,ff,ff] ?_
                 refine tK8 (i := 3) (N := some 72) #[tt,tt,tt,tt,tt,ff,ff,ff,ff] ?_
                 refine pU (i := 5) (N := some 74) #[tt,tt,tt,tt,tt,tt,ff,ff,ff] ?_
                 refine pU (i := 6) (N := some 75) #[tt,tt,tt,tt,tt,tt,tt,ff,ff] ?_
                 refine tK8 (i := 7) (N := some 76) #[tt,tt,tt,tt,tt,tt,tt,tt,ff] ?_
                 refine one_ (i := 8) (N := some 77) #[tt,tt,tt,tt,tt,tt,tt,tt,tt] rfl rfl (one_of HT_.out (by kernel_rfl)) (by decide) (fun K hK => ?_)
                 refine goes_ Try.func72 (by kernel_rfl) rfl #[.slice A103_1 ((rd_T56 l0_1 x3_2).f1).length c103_1, .slice A111_1 ((rd_T56 l0_1 x5_4).f1).length c111_1] (by rfl) rfl rfl (pY36) ?_
                 with_reducible refine (spec_l1Share.calls k4 _ _ ((rd_T56 l0_1 x3_2).f1) _ _ ((rd_T56 l0_1 x5_4).f1) false _ ?side1 ?side2 ?side3 ?side4 A45.out).mono ?_
                 (case side1 => exact pC (Kd.C_below HR103_1.1 HB.1))
                 (case side2 => exact HC103_1.1)
                 (case side3 => exact pC (Kd.C_below HR111_1.1 HB.1))
                 (case side4 => exact HC111_1.1)
                 rintro e w' ⟨rfl, ⟨nd, rfl⟩⟩
                 refine ⟨_, rfl, ?_⟩
                 refine hK.out _ _ ⟨(blk_cell BK104.1 0).trans rfl, (blk_cell BK104.1 1).trans rfl, (blk_cell BK104.1 2).trans rfl, (blk_cell BK101.1 0).trans rfl, (blk_cell BK101.1 1).trans rfl, ((HB.1.cell (World.block_lt_of_cell? w _ hw111_0)).trans hw111_0), ((HB.1.cell (World.block_lt_of_cell? w _ hw111_1)).trans hw111_1), ((HB.1.cell (World.block_lt_of_cell? w _ hw111_2)).trans hw111_2)⟩ (fun hHeld => ?_)
                 clear hK K
                 refine norm_ (a' := ?_) ?_ ?_
                 rotate_left
                 ·show Act.put _ (some 77) _ = _
                  simp only [pW]
                  rfl
                 refine done_ (done_of HT_.out (by kernel_rfl)) ?_
                 try go_wp2
                 go_roundg k4
                 case measure => have := HJ1.out; have := HK2.out; have := HJ10.out; have := HK4.out; omega
                 case rel => exact ⟨(wrap64 (x5_4 + 1)), (pY51), H', ⟨by have := HJ1.out; have := HK2.out; have := HJ10.out; have := HK4.out; omega⟩, ⟨by (with_reducible repeat (first | refine blk_drewN ?_ _ | refine blk_drew ?_ | refine blk_alloc ?_ _)); exact BK101.1⟩, ⟨by (with_reducible repeat (first | refine blk_drewN ?_ _ | refine blk_drew ?_ | refine blk_alloc ?_ _)); exact BK104.1⟩, ⟨pY29⟩⟩
               ·rw [if_neg c44] at H
                exact absurd H (by simp)
              ·rw [if_neg c43] at H
               exact absurd H (by simp)
             ·rw [if_neg c42] at H
              have c42b0 : decide (x5_4 < x3_2) = false := decide_eq_false c42
              clear c42
              have H' := Aside0.mk H
              clear H
              go_wp2
              go_roundg k4
              case measure => have := HJ1.out; have := HK2.out; have := HJ10.out; have := HK4.out; omega
              case rel => exact ⟨(wrap64 (x3_2 + 1)), (pY51), H', ⟨by have := HJ1.out; have := HK2.out; have := HJ10.out; have := HK4.out; omega⟩, ⟨by (with_reducible repeat (first | refine blk_drewN ?_ _ | refine blk_drew ?_ | refine blk_alloc ?_ _)); exact BK101.1⟩, ⟨pY29⟩⟩
       ·rw [if_neg c10] at H
        exact absurd H (by simp)
      ·rw [if_neg c9] at H
       have c9b0 : decide (x3_2 < (l0_1.length : Int)) = false := decide_eq_false c9
       clear c9
       obtain rfl := Option.some.inj H
       have hcz49_0 : wr.cell? ⟨gb101, 0, none⟩ = some (.slice A0_0 l0_0.length c0_0) := (blk_cell BK101.1 0).trans rfl
       have hcz49_1 : wr.cell? ⟨gb101, 1, none⟩ = some (.slice A0_1 l0_1.length c0_1) := (blk_cell BK101.1 1).trans rfl
       have hfz49_0 := blk_frozen BK101.1 0
       have hfz49_1 := blk_frozen BK101.1 1
       go_wp2
       go_ret
       exact ⟨by first | rfl | (simp [errW_none, errW_some] <;> rfl) | (simp [*, errW_none, errW_some] <;> rfl), pY35⟩
end Go.Proofs.Ytaofjgnhapnndaa.Q
namespace Go.Proofs.Ytaofjgnhapnndaa.Q
open Go.RowKit Go.Proofs.YtaofjgnhapnndaaW.PrintWords Go.Proofs.YtaofjgnhapnndaaW.PrintLast Go.Proofs.YtaofjgnhapnndaaW.PrintMore
set_option linter.unusedVariables false
set_option linter.unusedSimpArgs false
def spec_l1At.l0 : Nat → ByteArray → Int → List ByteArray → List (S56) → Option (Int)
 | 0, _, _, _, _ => none
 | k + 1, x1, x5, x102000, x102001 => if x5 < (x102001.length : Int) then (if 0 ≤ x5 then (if ((rd_T56 x102001 x5).f0).toList = x1.toList then (some x5) else (spec_l1At.l0 k x1 (wrap64 (x5 + 1)) x102000 x102001)) else (none)) else (some (-1))
def spec_l1At.f (k : Nat) (l0_0 : List ByteArray) (l0_1 : List (S56)) (a1 : ByteArray) : Option (Int) := spec_l1At.l0 k a1 0 l0_0 l0_1
set_option maxHeartbeats 8000000 in
set_option maxRecDepth 100000 in
theorem spec_l1At.calls (k : Nat) (A0_0 : Option Addr) (c0_0 : Nat) (l0_0 : List ByteArray) (A0_1 : Option Addr) (c0_1 : Nat) (l0_1 : List (S56)) (a1 : ByteArray) (r : Int) (w : World) (hr0_0 : Kd.C Kd.string w A0_0 l0_0.length l0_0) (hc0_0 : l0_0.length ≤ c0_0) (hr0_1 : Kd.C k56 w A0_1 l0_1.length l0_1) (hc0_1 : l0_1.length ≤ c0_1) (h : spec_l1At.f k l0_0 l0_1 a1 = some r) :
  Calls Try.prog 82 #[.agg #[.slice A0_0 l0_0.length c0_0, .slice A0_1 l0_1.length c0_1], .string a1] w fun e w' => e = .returned (.int .i64 r) ∧ Below w.heap.size w w' := by
 have hu31 := Try.underlying31
 have HR0_0 := Aside0.mk hr0_0
 have HC0_0 := Aside0.mk hc0_0
 clear hr0_0 hc0_0
 have HR0_1 := Aside0.mk hr0_1
 have HC0_1 := Aside0.mk hc0_1
 clear hr0_1 hc0_1
 have HB := Aside0.mk (Below.refl w.heap.size w)
 have H : (spec_l1At.l0 k a1 0 l0_0 l0_1) = some r := h
 clear h
 have H' := Aside0.mk H
 clear H
 go_enter Try.func82, Try.ntmps82
 go_wp2_with (first | ((with_reducible refine gate_dst (N := 2) rfl ?_); refine box_event ?hg (N := 2) ?hd (cs := #[.slice A0_0 l0_0.length c0_0, .slice A0_1 l0_1.length c0_1]) (t := 31) ?hr ?_; (case hd => rfl); (case hg => rfl); (case hr => first | (go_simp; done) | (go_simp; rfl)); intro gb101 hg w3 hbox hb; have n0_ := Aside0.mk (below_step (pY37) hb); have n1_ := Aside0.mk (hbox); have n2_ := Aside0.mk ((pY34 : w.heap.size ≤ gb101)); have n3_ := Aside0.mk ((pY34 : w.heap.size ≤ gb101)); clear HB; have HB := n0_; have BK101 := n1_; have GW101 := n2_; have GE101 := n3_; clear n0_ n1_ n2_ n3_; clear hb hbox hg))
 go_loopg [5] k (fun kq v5 w' => ∃ (x5_1 : Int), v5 = .int .i64 x5_1 ∧ Aside0 (spec_l1At.l0 kq a1 x5_1 l0_0 l0_1 = some r) ∧ Aside0 (kq ≤ k) ∧ Aside0 (w'.heap[gb101]? = some (.cells #[(.slice A0_0 l0_0.length c0_0), (.slice A0_1 l0_1.length c0_1)] 31 (0, 0))) ∧ Aside0 (Below w.heap.size w w'))
 case atStart => exact ⟨(0), (pY51), H', ⟨Nat.le_refl _⟩, ⟨by (with_reducible repeat (first | refine blk_drewN ?_ _ | refine blk_drew ?_ | refine blk_alloc ?_ _)); exact BK101.1⟩, ⟨pY35⟩⟩
 case round =>
  clear H'
  try clear p2
  obtain ⟨x5_1, rfl, HA, HK1, BK101, HB⟩ := hrel
  cases gk with
  | zero => exact absurd HA.out (by simp [spec_l1At.l0])
  | succ k1 =>
   have H := HA.out
   clear HA
   simp only [spec_l1At.l0] at H
   by_cases c4 : x5_1 < (l0_1.length : Int)
   ·rw [if_pos c4] at H
    have c4b0 : decide (x5_1 < (l0_1.length : Int)) = true := decide_eq_true c4
    clear c4
    by_cases c5 : 0 ≤ x5_1
    ·rw [if_pos c5] at H
     have c5b0 : decide (0 ≤ x5_1) = true := decide_eq_true c5
     clear c5
     by_cases c6 : ((rd_T56 l0_1 x5_1).f0).toList = a1.toList
     ·rw [if_pos c6] at H
      have c6b0 : (((rd_T56 l0_1 x5_1).f0).toList == a1.toList) = true := beq_iff_eq.mpr c6
      have c6b1 : (((rd_T56 l0_1 x5_1).f0).toList != a1.toList) = false := bne_eq_false_iff_eq.mpr c6
      clear c6
      obtain rfl := Option.some.inj H
      have hcz7_0 : wr.cell? ⟨gb101, 0, none⟩ = some (.slice A0_0 l0_0.length c0_0) := (blk_cell BK101.1 0).trans rfl
      have hcz7_1 : wr.cell? ⟨gb101, 1, none⟩ = some (.slice A0_1 l0_1.length c0_1) := (blk_cell BK101.1 1).trans rfl
      have hfz7_0 := blk_frozen BK101.1 0
      have hfz7_1 := blk_frozen BK101.1 1
      have p102 : 0 ≤ (x5_1 : Int) := of_decide_eq_true (pY50)
      have q102 : x5_1 < (l0_1.length : Int) := of_decide_eq_true (pY50)
      obtain ⟨ad102, A102_1, c102_1, A102_2, c102_2, e102, hx102_0, hx102_1, hx102_2, hl102_1, hi102_1, hl102_2, hi102_2⟩ := at_T56 HR0_1.1 x5_1 p102 q102
      cases e102
      replace hx102_0 := (HB.1.cell (World.block_lt_of_cell? w _ hx102_0)).trans hx102_0
      replace hx102_1 := (HB.1.cell (World.block_lt_of_cell? w _ hx102_1)).trans hx102_1
      replace hx102_2 := (HB.1.cell (World.block_lt_of_cell? w _ hx102_2)).trans hx102_2
      have HR102_1 := Aside0.mk hi102_1
      have HC102_1 := Aside0.mk hl102_1
      clear hi102_1 hl102_1
      have HR102_2 := Aside0.mk hi102_2
      have HC102_2 := Aside0.mk hl102_2
      clear hi102_2 hl102_2
      replace p102 := eq_true p102
      replace q102 := eq_true q102
      go_wp2
      go_ret
      exact ⟨by first | rfl | (simp [errW_none, errW_some] <;> rfl) | (simp [*, errW_none, errW_some] <;> rfl), pY35⟩
     ·rw [if_neg c6] at H
      have c6b0 : (((rd_T56 l0_1 x5_1).f0).toList == a1.toList) = false := beq_eq_false_iff_ne.mpr c6
      have c6b1 : (((rd_T56 l0_1 x5_1).f0).toList != a1.toList) = true := bne_iff_ne.mpr c6
      have H' := Aside0.mk H
      clear H
      have hcz8_0 : wr.cell? ⟨gb101, 0, none⟩ = some (.slice A0_0 l0_0.length c0_0) := (blk_cell BK101.1 0).trans rfl
      have hcz8_1 : wr.cell? ⟨gb101, 1, none⟩ = some (.slice A0_1 l0_1.length c0_1) := (blk_cell BK101.1 1).trans rfl
      have hfz8_0 := blk_frozen BK101.1 0
      have hfz8_1 := blk_frozen BK101.1 1
      have p102 : 0 ≤ (x5_1 : Int) := of_decide_eq_true (pY50)
      have q102 : x5_1 < (l0_1.length : Int) := of_decide_eq_true (pY50)
      obtain ⟨ad102, A102_1, c102_1, A102_2, c102_2, e102, hx102_0, hx102_1, hx102_2, hl102_1, hi102_1, hl102_2, hi102_2⟩ := at_T56 HR0_1.1 x5_1 p102 q102
      cases e102
      replace hx102_0 := (HB.1.cell (World.block_lt_of_cell? w _ hx102_0)).trans hx102_0
      replace hx102_1 := (HB.1.cell (World.block_lt_of_cell? w _ hx102_1)).trans hx102_1
      replace hx102_2 := (HB.1.cell (World.block_lt_of_cell? w _ hx102_2)).trans hx102_2
      have HR102_1 := Aside0.mk hi102_1
      have HC102_1 := Aside0.mk hl102_1
      clear hi102_1 hl102_1
      have HR102_2 := Aside0.mk hi102_2
      have HC102_2 := Aside0.mk hl102_2
      clear hi102_2 hl102_2
      replace p102 := eq_true p102
      replace q102 := eq_true q102
      go_wp2
      go_roundg k1
      case measure => have := HK1.out; omega
      case rel => exact ⟨(wrap64 (x5_1 + 1)), (pY51), H', ⟨by have := HK1.out; omega⟩, ⟨by (with_reducible repeat (first | refine blk_drewN ?_ _ | refine blk_drew ?_ | refine blk_alloc ?_ _)); exact BK101.1⟩, ⟨pY35⟩⟩
    ·rw [if_neg c5] at H
     exact absurd H (by simp)
   ·rw [if_neg c4] at H
    have c4b0 : decide (x5_1 < (l0_1.length : Int)) = false := decide_eq_false c4
    clear c4
    obtain rfl := Option.some.inj H
    have hcz9_0 : wr.cell? ⟨gb101, 0, none⟩ = some (.slice A0_0 l0_0.length c0_0) := (blk_cell BK101.1 0).trans rfl
    have hcz9_1 : wr.cell? ⟨gb101, 1, none⟩ = some (.slice A0_1 l0_1.length c0_1) := (blk_cell BK101.1 1).trans rfl
    have hfz9_0 := blk_frozen BK101.1 0
    have hfz9_1 := blk_frozen BK101.1 1
    go_wp2
    go_ret
    exact ⟨by first | rfl | (simp [errW_none, errW_some] <;> rfl) | (simp [*, errW_none, errW_some] <;> rfl), pY35⟩
end Go.Proofs.Ytaofjgnhapnndaa.Q
namespace Go.Proofs.Ytaofjgnhapnndaa.Q
open Go.RowKit Go.Proofs.YtaofjgnhapnndaaW.PrintWords Go.Proofs.YtaofjgnhapnndaaW.PrintLast Go.Proofs.YtaofjgnhapnndaaW.PrintMore
set_option linter.unusedVariables false
set_option linter.unusedSimpArgs false
def spec_l1Names.f (l0 : List ByteArray) : Option (List ByteArray) := (some (([] : List ByteArray) : List ByteArray)).bind fun y101 => (if y101.length + l0.length < 8796093022208 then (some (y101 ++ l0)) else (none))
set_option maxHeartbeats 8000000 in
set_option maxRecDepth 100000 in
theorem spec_l1Names.calls (A0 : Option Addr) (c0 : Nat) (l0 : List ByteArray) (r : List ByteArray) (w : World) (hr0 : Kd.C Kd.string w A0 l0.length l0) (hc0 : l0.length ≤ c0) (h : spec_l1Names.f l0 = some r) :
  Calls Try.prog 93 #[.slice A0 l0.length c0] w fun e w' => ∃ v0_ : Value, e = .returned (v0_) ∧ Kd.R Kd.string 9 w' w.heap.size (fun _ => True) v0_ r ∧ Below w.heap.size w w' := by
 have HR0 := Aside0.mk hr0
 have HC0 := Aside0.mk hc0
 clear hr0 hc0
 have HB := Aside0.mk (Below.refl w.heap.size w)
 have H : ((some (([] : List ByteArray) : List ByteArray)).bind fun y101 => (if y101.length + l0.length < 8796093022208 then (some (y101 ++ l0)) else (none))) = some r := h
 clear h
 obtain ⟨y101, hy101⟩ : ∃ y_ : List ByteArray, y_ = (([] : List ByteArray)) := ⟨_, rfl⟩
 replace H : (if y101.length + l0.length < 8796093022208 then (some (y101 ++ l0)) else (none)) = some r := by first | (rw [hy101]; with_reducible exact H) | (have H2_ := (Option.bind_some _ _).symm.trans H; rw [hy101]; with_reducible exact H2_) | (have H2_ := (Option.bind_some _ _).symm.trans H; with_reducible exact H2_) | with_reducible exact H | (rw [hy101]; exact H) | exact H
 have Ny101 := Aside0.mk hy101
 clear hy101
 by_cases c2 : y101.length + l0.length < 8796093022208
 ·rw [if_pos c2] at H
  have LMc2 := Aside0.mk c2
  clear c2
  obtain ⟨y104, hy104⟩ : ∃ y_ : List ByteArray, y_ = (y101 ++ l0) := ⟨_, rfl⟩
  replace H : (some y104) = some r := by first | (rw [hy104]; with_reducible exact H) | (have H2_ := (Option.bind_some _ _).symm.trans H; rw [hy104]; with_reducible exact H2_) | (have H2_ := (Option.bind_some _ _).symm.trans H; with_reducible exact H2_) | with_reducible exact H | (rw [hy104]; exact H) | exact H
  have Ny104 := Aside0.mk hy104
  clear hy104
  obtain rfl := Option.some.inj H
  go_enter Try.func93, Try.ntmps93
  go_wp2_with (first | ((with_reducible refine gate_dst (N := 3) rfl ?_); refine Kd.R_lit Kd.string _ 9 ?hg (N := 3) ?hd (xs := ([] : List ByteArray)) (inner := []) (ok := fun _ => True) (okp := fun _ => True) ?hr ?hp (fun _ hk => hk) trivial (Below.refl _ _) (Nat.le_refl _) (by simp) ?_; (case hd => rfl); (case hg => rfl); (case hr => first | (go_simp; done) | (go_simp; rfl)); (case hp => exact (Reps.none _ _)); intro v102 w3 ho4 hb hg_ hnew_; clear hg_ hnew_; (first | rw [← Ny101.out] at ho4 | (simp only [Int.reduceToNat] at ho4; rw [← Ny101.out] at ho4)); have n0_ := Aside0.mk (Kd.R_lower ho4 (below_size (pY37))); have n1_ := Aside0.mk (below_step (pY37) hb); clear HB; have HO103 := n0_; have HB := n1_; clear n0_ n1_; clear hb ho4) | ((with_reducible refine gate_builtin (b := .append) (xs := #[.tmp 3, .tmp 4]) rfl ?_); at_builtin; refine Kd.R_append_rows Kd.string (w0 := w) w.heap.size rfl (.tmp 3) (.tmp 4) 23 9 (.string ⟨#[]⟩) 16 rfl Try.underlying23 info9 rfl (by decide) (by omega) v102 y101 l0 _ _ _ (fun _ => True) (fun _ => False) rfl rfl ?aO ?aR (fun _ _ h => h) (fun _ h => h.elim) ?aF ?aB ?aS ?aL ?_; (case aR => repeat (first | exact (Kd.C_below HR0.1 HB.1) | (with_reducible refine Kd.C_alloc ?_ _) | (with_reducible refine Kd.C_drewN ?_ _) | (with_reducible refine Kd.C_drew ?_))); (case aB => exact (pY37)); (case aF => exact (fun _ _ => trivial)); (case aO => exact (by (with_reducible repeat (first | apply Kd.R_alloc | apply Kd.R_drewN | apply Kd.R_drew)); exact HO103.1)); (case aS => exact (below_size (pY37))); (case aL => have := LMc2.out; omega); intro v105 w5 ho hb hg hat; rw [← Ny104.out] at ho; have n0_ := Aside0.mk (hb); have n1_ := Aside0.mk (ho); clear HB; clear HO103; have HB := n0_; have HO106 := n1_; clear n0_ n1_; clear ho hb hg hat))
  go_ret
  exact ⟨_, by first | rfl | (simp [errW_none, errW_some] <;> rfl) | (simp [*, errW_none, errW_some] <;> rfl), by (with_reducible repeat (first | apply Kd.R_alloc | apply Kd.R_drewN | apply Kd.R_drew)); exact HO106.1, pY37⟩
 ·rw [if_neg c2] at H
  exact absurd H (by simp)
end Go.Proofs.Ytaofjgnhapnndaa.Q
namespace Go.Proofs.Ytaofjgnhapnndaa.Q
open Go.RowKit Go.Proofs.YtaofjgnhapnndaaW.PrintWords Go.Proofs.YtaofjgnhapnndaaW.PrintLast Go.Proofs.YtaofjgnhapnndaaW.PrintMore
set_option linter.unusedVariables false
set_option linter.unusedSimpArgs false
def spec_l1Copy.l0 : Nat → Int → List ByteArray → List (S56) → List ByteArray → List (S56) → Option (List ByteArray × (List (S56)))
 | 0, _, _, _, _, _ => none
 | k + 1, x4, x102000, x102001, x107000, x107001 => if x4 < (x102001.length : Int) then (if 0 ≤ x4 then ((spec_l1Names.f ((rd_T56 x102001 x4).f1)).bind fun t109 => ((spec_l1Names.f ((rd_T56 x102001 x4).f2)).bind fun t113 => (if x107001.length < 2199023255552 then (spec_l1Copy.l0 k (wrap64 (x4 + 1)) x102000 x102001 x107000 (x107001 ++ [(⟨(rd_T56 x102001 x4).f0, t109, t113⟩ : S56)])) else (none)))) else (none)) else (some (x107000, x107001))
def spec_l1Copy.f (k : Nat) (l0_0 : List ByteArray) (l0_1 : List (S56)) : Option (List ByteArray × (List (S56))) := (spec_l1Names.f l0_0).bind fun t103 => (spec_l1Copy.l0 k 0 l0_0 l0_1 t103 ([] : List (S56)))
def spec_l1Copy.T5 : Bool × List (List Nat × List Nat) := (true, [([], []), ([0], [0]), ([], []), ([2], [2]), ([], []), ([3, 4], [3, 4]), ([5], [5]), ([6], [6]), ([], []), ([8], [8]), ([], []), ([9, 10], [9, 10]), ([11], [11]), ([12], [12]), ([13], [13]), ([], []), ([15], [15]), ([], []), ([16, 17], [16, 17]), ([18], [18]), ([19], [19]), ([20, 14], [20]), ([7, 14, 21], [7, 14, 21]), ([22], [22]), ([1, 23, 21], [1, 23]), ([0, 1, 2, 3, 4, 5, 6, 7, 8, 9, 10, 11, 12, 13, 14, 15, 16, 17, 18, 19, 20, 21, 22, 23, 24], []), ([25, 24, 24, 0, 1, 2, 3, 4, 5, 6, 7, 8, 9, 10, 11, 12, 13, 14, 15, 16, 17, 18, 19, 20, 21, 22, 23, 24], [24, 25])])
def spec_l1Copy.B5 : List Nat := [0, 1, 0, 4, 0, 28, 60, 124, 0, 256, 0, 1792, 3840, 7936, 16128, 0, 32768, 0, 229376, 491520, 1015808, 2096896, 4194300, 8388604, 16777215, 33554431, 67108863]
theorem spec_l1Copy.tab5 : rtab .any (opsOf Try.f89 5) = spec_l1Copy.T5 := by kernel_rfl
theorem spec_l1Copy.bits5 : waitsOk spec_l1Copy.T5.2 spec_l1Copy.B5 = true := by kernel_rfl
set_option maxHeartbeats 8000000 in
set_option maxRecDepth 100000 in
theorem spec_l1Copy.calls (k : Nat) (A0_0 : Option Addr) (c0_0 : Nat) (l0_0 : List ByteArray) (A0_1 : Option Addr) (c0_1 : Nat) (l0_1 : List (S56)) (r1 : List ByteArray) (r2 : List (S56)) (w : World) (hr0_0 : Kd.C Kd.string w A0_0 l0_0.length l0_0) (hc0_0 : l0_0.length ≤ c0_0) (hr0_1 : Kd.C k56 w A0_1 l0_1.length l0_1) (hc0_1 : l0_1.length ≤ c0_1) (h : spec_l1Copy.f k l0_0 l0_1 = some (r1, r2)) :
  Calls Try.prog 89 #[.agg #[.slice A0_0 l0_0.length c0_0, .slice A0_1 l0_1.length c0_1]] w fun e w' => ∃ v0_ v1_ : Value, e = .returned (.agg #[v0_, v1_]) ∧ Kd.R Kd.string 9 w' w.heap.size (fun _ => True) v0_ r1 ∧ Kd.S k56 56 w' w.heap.size (fun k_ => some k_ ≠ (v0_ : Value).ownBlock) v1_ r2 ∧ Below w.heap.size w w' := by
 have hu31 := Try.underlying31
 have hu56 := Try.underlying56
 have HR0_0 := Aside0.mk hr0_0
 have HC0_0 := Aside0.mk hc0_0
 clear hr0_0 hc0_0
 have HR0_1 := Aside0.mk hr0_1
 have HC0_1 := Aside0.mk hc0_1
 clear hr0_1 hc0_1
 have HB := Aside0.mk (Below.refl w.heap.size w)
 have H : ((spec_l1Names.f l0_0).bind fun t103 => (spec_l1Copy.l0 k 0 l0_0 l0_1 t103 ([] : List (S56)))) = some (r1, r2) := h
 clear h
 replace H := Option.bind_eq_some_iff.mp H
 obtain ⟨t103, A20, H⟩ := H
 replace H : (spec_l1Copy.l0 k 0 l0_0 l0_1 t103 ([] : List (S56))) = some (r1, r2) := H
 have A2 := Aside0.mk A20
 clear A20
 have H' := Aside0.mk H
 clear H
 go_enter Try.func89, Try.ntmps89
 go_wp2_with (first | ((with_reducible refine gate_dst (N := 1) rfl ?_); refine box_event ?hg (N := 1) ?hd (cs := #[.slice A0_0 l0_0.length c0_0, .slice A0_1 l0_1.length c0_1]) (t := 31) ?hr ?_; (case hd => rfl); (case hg => rfl); (case hr => first | (go_simp; done) | (go_simp; rfl)); intro gb101 hg w3 hbox hb; have n0_ := Aside0.mk (below_step (pY37) hb); have n1_ := Aside0.mk (hbox); have n2_ := Aside0.mk ((pY34 : w.heap.size ≤ gb101)); have n3_ := Aside0.mk ((pY34 : w.heap.size ≤ gb101)); clear HB; have HB := n0_; have BK101 := n1_; have GW101 := n2_; have GE101 := n3_; clear n0_ n1_ n2_ n3_; clear hb hbox hg) | ((with_reducible refine gate_dst (N := 2) rfl ?_); refine box_event ?hg (N := 2) ?hd (cs := #[.slice none 0 0, .slice none 0 0]) (t := 31) ?hr ?_; (case hd => rfl); (case hg => rfl); (case hr => first | (go_simp; done) | (go_simp; rfl)); intro gb102 hg w4 hbox hb; have n0_ := Aside0.mk (blk_below (g := gb101) (o := .cells #[.slice A0_0 l0_0.length c0_0, .slice A0_1 l0_1.length c0_1] 31 (0, 0)) (pY38) hb); have n1_ := Aside0.mk (below_step (pY35) hb); have n2_ := Aside0.mk (hbox); have n3_ := Aside0.mk ((pY27 : w.heap.size ≤ gb102)); have n4_ := Aside0.mk ((pY27 : w.heap.size ≤ gb102)); have n5_ := Aside0.mk ((pY15 : gb101 ≠ gb102)); have n6_ := Aside0.mk ((pY16 : gb102 ≠ gb101)); clear BK101; clear HB; have BK101 := n0_; have HB := n1_; have BK102 := n2_; have GW102 := n3_; have GE102 := n4_; have NB101_102 := n5_; have NB102_101 := n6_; clear n0_ n1_ n2_ n3_ n4_ n5_ n6_; clear hb hbox hg; have hnb5 := NB101_102.1; have hnc5 := NB102_101.1; have hcz6_0 : w4.cell? ⟨gb101, 0, none⟩ = some (.slice A0_0 l0_0.length c0_0) := (blk_cell BK101.1 0).trans rfl; have hcz6_1 : w4.cell? ⟨gb101, 1, none⟩ = some (.slice A0_1 l0_1.length c0_1) := (blk_cell BK101.1 1).trans rfl; have hfz6_0 := blk_frozen BK101.1 0; have hfz6_1 := blk_frozen BK101.1 1) | ((with_reducible refine gate_callee (f := 93) rfl ?_); refine goesL_ (some 7) rfl rfl Try.func93 (by kernel_rfl) rfl #[.slice A0_0 l0_0.length c0_0] rfl (pY36) ?_; (with_reducible refine (spec_l1Names.calls _ _ l0_0 t103 _ ?side1 ?side2 A2.out).mono ?_); (case side1 => exact pC (Kd.C_below HR0_0.1 HB.1)); (case side2 => exact HC0_0.1); rintro e w7 ⟨v104, rfl, ho0, hb⟩; refine ⟨_, rfl, ?_⟩; have n0_ := Aside0.mk (Kd.R_lower ho0 (below_size (pY28))); have n1_ := Aside0.mk (blk_below (g := gb101) (o := .cells #[.slice A0_0 l0_0.length c0_0, .slice A0_1 l0_1.length c0_1] 31 (0, 0)) (pY38) hb); have n2_ := Aside0.mk (blk_below (g := gb102) (o := .cells #[.slice none 0 0, .slice none 0 0] 31 (0, 0)) (pY39) hb); have n3_ := Aside0.mk (below_step (pY28) hb); clear BK101; clear BK102; clear HB; have HO105 := n0_; have BK101 := n1_; have BK102 := n2_; have HB := n3_; clear n0_ n1_ n2_ n3_; (try clear hb); (try clear hb2); (try clear hk); (try clear hi); (try clear ho0); obtain ⟨Ao8, co8, eo8⟩ := Kd.R_slice HO105.1; subst eo8) | ((with_reducible refine gate_dst (N := 3) rfl ?_); refine box_event ?hg (N := 3) ?hd (cs := #[.slice none 0 0, .slice none 0 0]) (t := 31) ?hr ?_; (case hd => rfl); (case hg => rfl); (case hr => first | (go_simp; done) | (go_simp; rfl)); intro gb106 hg w9 hbox hb; have n0_ := Aside0.mk (Kd.R_below (by (with_reducible repeat (first | apply Kd.R_alloc | apply Kd.R_drewN | apply Kd.R_drew)); exact HO105.1) hb); have n1_ := Aside0.mk (blk_below (g := gb101) (o := .cells #[.slice A0_0 l0_0.length c0_0, .slice A0_1 l0_1.length c0_1] 31 (0, 0)) (pY38) hb); have n2_ := Aside0.mk (blk_below (g := gb102) (o := .cells #[.slice none 0 0, .slice none 0 0] 31 (0, 0)) (pY39) hb); have n3_ := Aside0.mk (below_step (pY28) hb); have n4_ := Aside0.mk (hbox); have n5_ := Aside0.mk ((pY21 : w.heap.size ≤ gb106)); have n6_ := Aside0.mk ((pY21 : w.heap.size ≤ gb106)); have n7_ := Aside0.mk ((pY15 : gb101 ≠ gb106)); have n8_ := Aside0.mk ((pY16 : gb106 ≠ gb101)); have n9_ := Aside0.mk ((pY19 : gb102 ≠ gb106)); have n10_ := Aside0.mk ((pY20 : gb106 ≠ gb102)); clear HO105; clear BK101; clear BK102; clear HB; have HO105 := n0_; have BK101 := n1_; have BK102 := n2_; have HB := n3_; have BK106 := n4_; have GW106 := n5_; have GE106 := n6_; have NB101_106 := n7_; have NB106_101 := n8_; have NB102_106 := n9_; have NB106_102 := n10_; clear n0_ n1_ n2_ n3_ n4_ n5_ n6_ n7_ n8_ n9_ n10_; clear hb hbox hg; have hnb10 := NB106_101.1; have hnc10 := NB101_106.1; have hnb11 := NB106_102.1; have hnc11 := NB102_106.1; have hcz12_0 : w9.cell? ⟨gb106, 0, none⟩ = some (.slice none 0 0) := (blk_cell BK106.1 0).trans rfl; have hcz12_1 : w9.cell? ⟨gb106, 1, none⟩ = some (.slice none 0 0) := (blk_cell BK106.1 1).trans rfl; have hfz12_0 := blk_frozen BK106.1 0; have hfz12_1 := blk_frozen BK106.1 1))
 go_loopg [4] k (fun kq v4 w' => ∃ (x4_1 : Int) (x107001_1 : List (S56)) (u107001 : Value), v4 = .int .i64 x4_1 ∧ Aside0 (spec_l1Copy.l0 kq x4_1 l0_0 l0_1 t103 x107001_1 = some (r1, r2)) ∧ Aside0 (kq ≤ k) ∧ Aside0 (Kd.R Kd.string 9 w' w.heap.size (fun _ => True) (.slice Ao8 t103.length co8) t103) ∧ Aside0 (Kd.S k56 56 w' w.heap.size (fun k_ => some k_ ≠ ((.slice Ao8 t103.length co8) : Value).ownBlock) u107001 x107001_1) ∧ Aside0 (w'.heap[gb101]? = some (.cells #[(.slice A0_0 l0_0.length c0_0), (.slice A0_1 l0_1.length c0_1)] 31 (0, 0))) ∧ Aside0 (w'.heap[gb102]? = some (.cells #[(.slice none 0 0), (.slice none 0 0)] 31 (0, 0))) ∧ Aside0 (w'.heap[gb106]? = some (.cells #[(.slice Ao8 t103.length co8), u107001] 31 (0, 0))) ∧ Aside0 (Below w.heap.size w w'))
 case atStart => exact ⟨(0), (([] : List (S56))), (.slice none 0 0), (pY51), H', ⟨Nat.le_refl _⟩, ⟨by (with_reducible repeat (first | apply Kd.R_alloc | apply Kd.R_drewN | apply Kd.R_drew)); exact Kd.R_mono (Kd.R_far (p := ⟨gb106, 1, none⟩) (Kd.R_far (p := ⟨gb106, 0, none⟩) (Kd.R_types HO105.1 BK106.1 (by decide)) (fun _ hk => hk.2) (.slice Ao8 t103.length co8)) (fun _ hk => hk.2) (.slice none 0 0)) (fun _ hk => trivial)⟩, ⟨by first | exact Kd.S_nil _ _ _ _ _ | exact Kd.N_nil _ _ _ _ _ | exact Kd.V_nil _ _ _ _ _ | exact Kd.Q_nil _ _ _ _ _ | exact Kd.R_nil _ _ _ _ _⟩, ⟨by (with_reducible repeat (first | refine blk_drewN ?_ _ | refine blk_drew ?_ | refine blk_alloc ?_ _)); refine blk_far ?_ NB101_106.1 _; (with_reducible repeat (first | refine blk_drewN ?_ _ | refine blk_drew ?_ | refine blk_alloc ?_ _)); refine blk_far ?_ NB101_106.1 _; (with_reducible repeat (first | refine blk_drewN ?_ _ | refine blk_drew ?_ | refine blk_alloc ?_ _)); exact BK101.1⟩, ⟨by (with_reducible repeat (first | refine blk_drewN ?_ _ | refine blk_drew ?_ | refine blk_alloc ?_ _)); refine blk_far ?_ NB102_106.1 _; (with_reducible repeat (first | refine blk_drewN ?_ _ | refine blk_drew ?_ | refine blk_alloc ?_ _)); refine blk_far ?_ NB102_106.1 _; (with_reducible repeat (first | refine blk_drewN ?_ _ | refine blk_drew ?_ | refine blk_alloc ?_ _)); exact BK102.1⟩, ⟨by (with_reducible repeat (first | refine blk_drewN ?_ _ | refine blk_drew ?_ | refine blk_alloc ?_ _)); refine blk_put (cs := #[.slice Ao8 t103.length co8, .slice none 0 0]) ?_ 1 _ rfl; (with_reducible repeat (first | refine blk_drewN ?_ _ | refine blk_drew ?_ | refine blk_alloc ?_ _)); refine blk_put (cs := #[.slice none 0 0, .slice none 0 0]) ?_ 0 _ rfl; (with_reducible repeat (first | refine blk_drewN ?_ _ | refine blk_drew ?_ | refine blk_alloc ?_ _)); exact BK106.1⟩, ⟨pY24⟩⟩
 case round =>
  clear H'
  try clear c1
  try clear p2
  try clear c5
  try clear c8
  try clear c9
  try clear c10
  try clear c11
  try clear hcz12_0
  try clear hcz12_1
  try clear hcz6_0
  try clear hcz6_1
  try clear hfz12_0
  try clear hfz12_1
  try clear hfz6_0
  try clear hfz6_1
  obtain ⟨x4_1, x107001_1, u107001, rfl, HA, HK1, HO_107000, HO_107001, BK101, BK102, BK106, HB⟩ := hrel
  cases gk with
  | zero => exact absurd HA.out (by simp [spec_l1Copy.l0])
  | succ k1 =>
   have H := HA.out
   clear HA
   simp only [spec_l1Copy.l0] at H
   by_cases c13 : x4_1 < (l0_1.length : Int)
   ·rw [if_pos c13] at H
    have c13b0 : decide (x4_1 < (l0_1.length : Int)) = true := decide_eq_true c13
    clear c13
    by_cases c14 : 0 ≤ x4_1
    ·rw [if_pos c14] at H
     have c14b0 : decide (0 ≤ x4_1) = true := decide_eq_true c14
     clear c14
     replace H := Option.bind_eq_some_iff.mp H
     obtain ⟨t109, A150, H⟩ := H
     replace H : ((spec_l1Names.f ((rd_T56 l0_1 x4_1).f2)).bind fun t113 => (if x107001_1.length < 2199023255552 then (spec_l1Copy.l0 k1 (wrap64 (x4_1 + 1)) l0_0 l0_1 t103 (x107001_1 ++ [(⟨(rd_T56 l0_1 x4_1).f0, t109, t113⟩ : S56)])) else (none))) = some (r1, r2) := H
     have A15 := Aside0.mk A150
     clear A150
     replace H := Option.bind_eq_some_iff.mp H
     obtain ⟨t113, A160, H⟩ := H
     replace H : (if x107001_1.length < 2199023255552 then (spec_l1Copy.l0 k1 (wrap64 (x4_1 + 1)) l0_0 l0_1 t103 (x107001_1 ++ [(⟨(rd_T56 l0_1 x4_1).f0, t109, t113⟩ : S56)])) else (none)) = some (r1, r2) := H
     have A16 := Aside0.mk A160
     clear A160
     by_cases c17 : x107001_1.length < 2199023255552
     ·rw [if_pos c17] at H
      have LMc17 := Aside0.mk c17
      clear c17
      obtain ⟨y116, hy116⟩ : ∃ y_ : List (S56), y_ = (x107001_1 ++ [(⟨(rd_T56 l0_1 x4_1).f0, t109, t113⟩ : S56)]) := ⟨_, rfl⟩
      replace H : (spec_l1Copy.l0 k1 (wrap64 (x4_1 + 1)) l0_0 l0_1 t103 y116) = some (r1, r2) := by first | (rw [hy116]; with_reducible exact H) | (have H2_ := (Option.bind_some _ _).symm.trans H; rw [hy116]; with_reducible exact H2_) | (have H2_ := (Option.bind_some _ _).symm.trans H; with_reducible exact H2_) | with_reducible exact H | (rw [hy116]; exact H) | exact H
      have Ny116 := Aside0.mk hy116
      clear hy116
      have H' := Aside0.mk H
      clear H
      have hnb18 := NB101_102.1
      have hnc18 := NB102_101.1
      have hnb19 := NB101_106.1
      have hnc19 := NB106_101.1
      have hcz20_0 : wr.cell? ⟨gb101, 0, none⟩ = some (.slice A0_0 l0_0.length c0_0) := (blk_cell BK101.1 0).trans rfl
      have hcz20_1 : wr.cell? ⟨gb101, 1, none⟩ = some (.slice A0_1 l0_1.length c0_1) := (blk_cell BK101.1 1).trans rfl
      have hfz20_0 := blk_frozen BK101.1 0
      have hfz20_1 := blk_frozen BK101.1 1
      try go_wp2
      have n0_ := Aside0.mk (Kd.R_drew HO_107000.1)
      have n1_ := Aside0.mk (Kd.S_drew HO_107001.1)
      have n2_ := Aside0.mk (blk_drew BK101.1)
      have n3_ := Aside0.mk (blk_drew BK102.1)
      have n4_ := Aside0.mk (blk_drew BK106.1)
      have n5_ := Aside0.mk (below_drew1 HB.1)
      clear HO_107000
      clear HO_107001
      clear BK101
      clear BK102
      clear BK106
      clear HB
      have HO_107000 := n0_
      have HO_107001 := n1_
      have BK101 := n2_
      have BK102 := n3_
      have BK106 := n4_
      have HB := n5_
      clear n0_ n1_ n2_ n3_ n4_ n5_
      have p107 : 0 ≤ (x4_1 : Int) := of_decide_eq_true (pY50)
      have q107 : x4_1 < (l0_1.length : Int) := of_decide_eq_true (pY50)
      obtain ⟨ad107, A107_1, c107_1, A107_2, c107_2, e107, hx107_0, hx107_1, hx107_2, hl107_1, hi107_1, hl107_2, hi107_2⟩ := at_T56 HR0_1.1 x4_1 p107 q107
      have hw107_2 := hx107_2
      have hw107_1 := hx107_1
      have hw107_0 := hx107_0
      cases e107
      replace hx107_0 := (HB.1.cell (World.block_lt_of_cell? w _ hx107_0)).trans hx107_0
      replace hx107_1 := (HB.1.cell (World.block_lt_of_cell? w _ hx107_1)).trans hx107_1
      replace hx107_2 := (HB.1.cell (World.block_lt_of_cell? w _ hx107_2)).trans hx107_2
      have HR107_1 := Aside0.mk hi107_1
      have HC107_1 := Aside0.mk hl107_1
      clear hi107_1 hl107_1
      have HR107_2 := Aside0.mk hi107_2
      have HC107_2 := Aside0.mk hl107_2
      clear hi107_2 hl107_2
      replace p107 := eq_true p107
      replace q107 := eq_true q107
      have p108 : 0 ≤ (x4_1 : Int) := of_decide_eq_true (pY50)
      have q108 : x4_1 < (l0_1.length : Int) := of_decide_eq_true (pY50)
      obtain ⟨ad108, A108_1, c108_1, A108_2, c108_2, e108, hx108_0, hx108_1, hx108_2, hl108_1, hi108_1, hl108_2, hi108_2⟩ := at_T56 HR0_1.1 x4_1 p108 q108
      have hw108_2 := hx108_2
      have hw108_1 := hx108_1
      have hw108_0 := hx108_0
      obtain rfl : ad107 = ad108 := (by injection e108)
      replace hx108_0 := (HB.1.cell (World.block_lt_of_cell? w _ hx108_0)).trans hx108_0
      replace hx108_1 := (HB.1.cell (World.block_lt_of_cell? w _ hx108_1)).trans hx108_1
      replace hx108_2 := (HB.1.cell (World.block_lt_of_cell? w _ hx108_2)).trans hx108_2
      have HR108_1 := Aside0.mk hi108_1
      have HC108_1 := Aside0.mk hl108_1
      clear hi108_1 hl108_1
      have HR108_2 := Aside0.mk hi108_2
      have HC108_2 := Aside0.mk hl108_2
      clear hi108_2 hl108_2
      replace p108 := eq_true p108
      replace q108 := eq_true q108
      have ea_ := Option.some.inj (hx107_1.symm.trans hx108_1)
      injection ea_ with ea_ en_ ec_
      subst ea_
      subst ec_
      clear en_
      have ea_ := Option.some.inj (hx107_2.symm.trans hx108_2)
      injection ea_ with ea_ en_ ec_
      subst ea_
      subst ec_
      clear en_
      have p112 : 0 ≤ (x4_1 : Int) := of_decide_eq_true (pY50)
      have q112 : x4_1 < (l0_1.length : Int) := of_decide_eq_true (pY50)
      obtain ⟨ad112, A112_1, c112_1, A112_2, c112_2, e112, hx112_0, hx112_1, hx112_2, hl112_1, hi112_1, hl112_2, hi112_2⟩ := at_T56 HR0_1.1 x4_1 p112 q112
      have hw112_2 := hx112_2
      have hw112_1 := hx112_1
      have hw112_0 := hx112_0
      obtain rfl : ad107 = ad112 := (by injection e112)
      replace hx112_0 := (HB.1.cell (World.block_lt_of_cell? w _ hx112_0)).trans hx112_0
      replace hx112_1 := (HB.1.cell (World.block_lt_of_cell? w _ hx112_1)).trans hx112_1
      replace hx112_2 := (HB.1.cell (World.block_lt_of_cell? w _ hx112_2)).trans hx112_2
      have HR112_1 := Aside0.mk hi112_1
      have HC112_1 := Aside0.mk hl112_1
      clear hi112_1 hl112_1
      have HR112_2 := Aside0.mk hi112_2
      have HC112_2 := Aside0.mk hl112_2
      clear hi112_2 hl112_2
      replace p112 := eq_true p112
      replace q112 := eq_true q112
      have ea_ := Option.some.inj (hx107_1.symm.trans hx112_1)
      injection ea_ with ea_ en_ ec_
      subst ea_
      subst ec_
      clear en_
      have ea_ := Option.some.inj (hx107_2.symm.trans hx112_2)
      injection ea_ with ea_ en_ ec_
      subst ea_
      subst ec_
      clear en_
      refine start_ (n := 27) (S := fun w' => w'.cell? ⟨gb106, 0, none⟩ = some (.slice Ao8 t103.length co8) ∧ w'.cell? ⟨gb106, 1, none⟩ = some (u107001) ∧ w'.cell? ⟨gb101, 0, none⟩ = some (.slice A0_0 l0_0.length c0_0) ∧ w'.cell? ⟨gb101, 1, none⟩ = some (.slice (some ad107) l0_1.length c0_1) ∧ w'.cell? (ad107.add ((x4_1).toNat * 3)) = some (.string ((rd_T56 l0_1 x4_1).f0)) ∧ w'.cell? ⟨(ad107.add ((x4_1).toNat * 3)).block, (ad107.add ((x4_1).toNat * 3)).off + 1, none⟩ = some (.slice A107_1 ((rd_T56 l0_1 x4_1).f1).length c107_1) ∧ w'.cell? ⟨(ad107.add ((x4_1).toNat * 3)).block, (ad107.add ((x4_1).toNat * 3)).off + 2, none⟩ = some (.slice A107_2 ((rd_T56 l0_1 x4_1).f2).length c107_2) ∧ w'.cell? (ad107.add ((x4_1).toNat * 3)) = some (.string ((rd_T56 l0_1 x4_1).f0)) ∧ w'.cell? ⟨(ad107.add ((x4_1).toNat * 3)).block, (ad107.add ((x4_1).toNat * 3)).off + 1, none⟩ = some (.slice A107_1 ((rd_T56 l0_1 x4_1).f1).length c107_1) ∧ w'.cell? ⟨(ad107.add ((x4_1).toNat * 3)).block, (ad107.add ((x4_1).toNat * 3)).off + 2, none⟩ = some (.slice A107_2 ((rd_T56 l0_1 x4_1).f2).length c107_2) ∧ w'.cell? (ad107.add ((x4_1).toNat * 3)) = some (.string ((rd_T56 l0_1 x4_1).f0)) ∧ w'.cell? ⟨(ad107.add ((x4_1).toNat * 3)).block, (ad107.add ((x4_1).toNat * 3)).off + 1, none⟩ = some (.slice A107_1 ((rd_T56 l0_1 x4_1).f1).length c107_1) ∧ w'.cell? ⟨(ad107.add ((x4_1).toNat * 3)).block, (ad107.add ((x4_1).toNat * 3)).off + 2, none⟩ = some (.slice A107_2 ((rd_T56 l0_1 x4_1).f2).length c107_2)) (ds := [26]) #[ff,ff,ff,ff,ff,ff,ff,ff,ff,ff,ff,ff,ff,ff,ff,ff,ff,ff,ff,ff,ff,ff,ff,ff,ff,ff,ff] (by kernel_rfl) rfl rfl ⟨(blk_cell BK106.1 0).trans rfl, (blk_cell BK106.1 1).trans rfl, (blk_cell BK101.1 0).trans rfl, (blk_cell BK101.1 1).trans rfl, ((HB.1.cell (World.block_lt_of_cell? w _ hw107_0)).trans hw107_0), ((HB.1.cell (World.block_lt_of_cell? w _ hw107_1)).trans hw107_1), ((HB.1.cell (World.block_lt_of_cell? w _ hw107_2)).trans hw107_2), ((HB.1.cell (World.block_lt_of_cell? w _ hw108_0)).trans hw108_0), ((HB.1.cell (World.block_lt_of_cell? w _ hw108_1)).trans hw108_1), ((HB.1.cell (World.block_lt_of_cell? w _ hw108_2)).trans hw108_2), ((HB.1.cell (World.block_lt_of_cell? w _ hw112_0)).trans hw112_0), ((HB.1.cell (World.block_lt_of_cell? w _ hw112_1)).trans hw112_1), ((HB.1.cell (World.block_lt_of_cell? w _ hw112_2)).trans hw112_2)⟩ (fun hHeld => ?_); refine with_tabW spec_l1Copy.tab5 spec_l1Copy.bits5 (fun HT_ HW_ => ?_)
      generalize wr.drew = w21 at HO_107000 HO_107001 BK101 BK102 BK106 HB HR107_1 HR107_2 HR108_1 HR108_2 HR112_1 HR112_2 hx107_0 hx107_1 hx107_2 hx108_0 hx108_1 hx108_2 hx112_0 hx112_1 hx112_2 hHeld ⊢
      refine pU (i := 0) (N := some 16) #[tt,ff,ff,ff,ff,ff,ff,ff,ff,ff,ff,ff,ff,ff,ff,ff,ff,ff,ff,ff,ff,ff,ff,ff,ff,ff,ff] ?_
      refine pU (i := 2) (N := some 18) #[tt,ff,tt,ff,ff,ff,ff,ff,ff,ff,ff,ff,ff,ff,ff,ff,ff,ff,ff,ff,ff,ff,ff,ff,ff,ff,ff] ?_
      refine pU (i := 4) (N := some 20) #[tt,ff,tt,ff,tt,ff,ff,ff,ff,ff,ff,ff,ff,ff,ff,ff,ff,ff,ff,ff,ff,ff,ff,ff,ff,ff,ff] ?_
      refine pU (i := 8) (N := some 24) #[tt,ff,tt,ff,tt,ff,ff,ff,tt,ff,ff,ff,ff,ff,ff,ff,ff,ff,ff,ff,ff,ff,ff,ff,ff,ff,ff] ?_
      refine pU (i := 10) (N := some 26) #[tt,ff,tt,ff,tt,ff,ff,ff,tt,ff,tt,ff,ff,ff,ff,ff,ff,ff,ff,ff,ff,ff,ff,ff,ff,ff,ff] ?_
      refine pU (i := 15) (N := some 31) #[tt,ff,tt,ff,tt,ff,ff,ff,tt,ff,tt,ff,ff,ff,ff,tt,ff,ff,ff,ff,ff,ff,ff,ff,ff,ff,ff] ?_
      refine pU (i := 17) (N := some 33) #[tt,ff,tt,ff,tt,ff,ff,ff,tt,ff,tt,ff,ff,ff,ff,tt,ff,tt,ff,ff,ff,ff,ff,ff,ff,ff,ff] ?_
      refine tK13 (i := 1) (N := some 17) #[tt,tt,tt,ff,tt,ff,ff,ff,tt,ff,tt,ff,ff,ff,ff,tt,ff,tt,ff,ff,ff,ff,ff,ff,ff,ff,ff] ?_
      refine tK13 (i := 3) (N := some 19) #[tt,tt,tt,tt,tt,ff,ff,ff,tt,ff,tt,ff,ff,ff,ff,tt,ff,tt,ff,ff,ff,ff,ff,ff,ff,ff,ff] ?_
      refine pU (i := 5) (N := some 21) #[tt,tt,tt,tt,tt,tt,ff,ff,tt,ff,tt,ff,ff,ff,ff,tt,ff,tt,ff,ff,ff,ff,ff,ff,ff,ff,ff] ?_
      refine pU (i := 6) (N := some 22) #[tt,tt,tt,tt,tt,tt,tt,ff,tt,ff,tt,ff,ff,ff,ff,tt,ff,tt,ff,ff,ff,ff,ff,ff,ff,ff,ff] ?_
      refine tK13 (i := 7) (N := some 23) #[tt,tt,tt,tt,tt,tt,tt,tt,tt,ff,tt,ff,ff,ff,ff,tt,ff,tt,ff,ff,ff,ff,ff,ff,ff,ff,ff] ?_
      refine tK13 (i := 9) (N := some 25) #[tt,tt,tt,tt,tt,tt,tt,tt,tt,tt,tt,ff,ff,ff,ff,tt,ff,tt,ff,ff,ff,ff,ff,ff,ff,ff,ff] ?_
      refine pU (i := 11) (N := some 27) #[tt,tt,tt,tt,tt,tt,tt,tt,tt,tt,tt,tt,ff,ff,ff,tt,ff,tt,ff,ff,ff,ff,ff,ff,ff,ff,ff] ?_
      refine pU (i := 12) (N := some 28) #[tt,tt,tt,tt,tt,tt,tt,tt,tt,tt,tt,tt,tt,ff,ff,tt,ff,tt,ff,ff,ff,ff,ff,ff,ff,ff,ff] ?_
      refine tK13 (i := 13) (N := some 29) #[tt,tt,tt,tt,tt,tt,tt,tt,tt,tt,tt,tt,tt,tt,ff,tt,ff,tt,ff,ff,ff,ff,ff,ff,ff,ff,ff] ?_
      refine tK13 (i := 16) (N := some 32) #[tt,tt,tt,tt,tt,tt,tt,tt,tt,tt,tt,tt,tt,tt,ff,tt,tt,tt,ff,ff,ff,ff,ff,ff,ff,ff,ff] ?_
      refine pU (i := 18) (N := some 34) #[tt,tt,tt,tt,tt,tt,tt,tt,tt,tt,tt,tt,tt,tt,ff,tt,tt,tt,tt,ff,ff,ff,ff,ff,ff,ff,ff] ?_
      refine pU (i := 19) (N := some 35) #[tt,tt,tt,tt,tt,tt,tt,tt,tt,tt,tt,tt,tt,tt,ff,tt,tt,tt,tt,tt,ff,ff,ff,ff,ff,ff,ff] ?_
      refine tK13 (i := 20) (N := some 36) #[tt,tt,tt,tt,tt,tt,tt,tt,tt,tt,tt,tt,tt,tt,ff,tt,tt,tt,tt,tt,tt,ff,ff,ff,ff,ff,ff] ?_
      refine one_ (i := 14) (N := some 30) #[tt,tt,tt,tt,tt,tt,tt,tt,tt,tt,tt,tt,tt,tt,tt,tt,tt,tt,tt,tt,tt,ff,ff,ff,ff,ff,ff] rfl rfl (one_of HT_.out (by kernel_rfl)) (by decide) (fun K hK => ?_)
      refine goes_ Try.func93 (by kernel_rfl) rfl #[.slice A107_1 ((rd_T56 l0_1 x4_1).f1).length c107_1] (by rfl) rfl rfl (pY36) ?_
      with_reducible refine (spec_l1Names.calls _ _ ((rd_T56 l0_1 x4_1).f1) t109 _ ?side1 ?side2 A15.out).mono ?_
      (case side1 => exact pC (Kd.C_below HR108_1.1 HB.1))
      (case side2 => exact HC108_1.1)
      rintro e w22 ⟨v110, rfl, ho0, hb⟩
      refine ⟨_, rfl, ?_⟩
      have n0_ := Aside0.mk (Kd.R_elder' (pY43) (Kd.R_base ho0) hb)
      have n1_ := Aside0.mk (Kd.S_elder' (pY44) (Kd.R_base ho0) hb)
      have n2_ := Aside0.mk (Kd.R_lower (Kd.R_new' ho0 (Kd.R_lt (pY43))) (below_size (pY24)))
      have n3_ := Aside0.mk (blk_below (g := gb101) (o := .cells #[.slice A0_0 l0_0.length c0_0, .slice (some ad107) l0_1.length c0_1] 31 (0, 0)) (pY38) hb)
      have n4_ := Aside0.mk (blk_below (g := gb102) (o := .cells #[.slice none 0 0, .slice none 0 0] 31 (0, 0)) (pY39) hb)
      have n5_ := Aside0.mk (blk_below (g := gb106) (o := .cells #[.slice Ao8 t103.length co8, u107001] 31 (0, 0)) (pY40) hb)
      have n6_ := Aside0.mk (below_step (pY24) hb)
      clear HO_107000
      clear HO_107001
      clear BK101
      clear BK102
      clear BK106
      clear HB
      have HO_107000 := n0_
      have HO_107001 := n1_
      have HO111 := n2_
      have BK101 := n3_
      have BK102 := n4_
      have BK106 := n5_
      have HB := n6_
      clear n0_ n1_ n2_ n3_ n4_ n5_ n6_
      (try clear hb)
      (try clear hb2)
      (try clear hk)
      (try clear hi)
      (try clear ho0)
      refine hK.out _ _ ⟨(blk_cell BK106.1 0).trans rfl, (blk_cell BK106.1 1).trans rfl, (blk_cell BK101.1 0).trans rfl, (blk_cell BK101.1 1).trans rfl, ((HB.1.cell (World.block_lt_of_cell? w _ hw107_0)).trans hw107_0), ((HB.1.cell (World.block_lt_of_cell? w _ hw107_1)).trans hw107_1), ((HB.1.cell (World.block_lt_of_cell? w _ hw107_2)).trans hw107_2), ((HB.1.cell (World.block_lt_of_cell? w _ hw108_0)).trans hw108_0), ((HB.1.cell (World.block_lt_of_cell? w _ hw108_1)).trans hw108_1), ((HB.1.cell (World.block_lt_of_cell? w _ hw108_2)).trans hw108_2), ((HB.1.cell (World.block_lt_of_cell? w _ hw112_0)).trans hw112_0), ((HB.1.cell (World.block_lt_of_cell? w _ hw112_1)).trans hw112_1), ((HB.1.cell (World.block_lt_of_cell? w _ hw112_2)).trans hw112_2)⟩ (fun hHeld => ?_)
      clear hK K
      refine norm_ (a' := ?_) ?_ ?_
      rotate_left
      ·show Act.put _ (some 30) _ = _
       simp only [pW]
       rfl
      refine one_ (i := 21) (N := some 37) #[tt,tt,tt,tt,tt,tt,tt,tt,tt,tt,tt,tt,tt,tt,tt,tt,tt,tt,tt,tt,tt,tt,ff,ff,ff,ff,ff] rfl rfl (one_of HT_.out (by kernel_rfl)) (by decide) (fun K hK => ?_)
      refine goes_ Try.func93 (by kernel_rfl) rfl #[.slice A107_2 ((rd_T56 l0_1 x4_1).f2).length c107_2] (by rfl) rfl rfl (pY36) ?_
      with_reducible refine (spec_l1Names.calls _ _ ((rd_T56 l0_1 x4_1).f2) t113 _ ?side1 ?side2 A16.out).mono ?_
      (case side1 => exact pC (Kd.C_below HR112_2.1 HB.1))
      (case side2 => exact HC112_2.1)
      rintro e w23 ⟨v114, rfl, ho0, hb⟩
      refine ⟨_, rfl, ?_⟩
      have n0_ := Aside0.mk (Kd.R_elder' (pY43) (Kd.R_base ho0) hb)
      have n1_ := Aside0.mk (Kd.S_elder' (pY44) (Kd.R_base ho0) hb)
      have n2_ := Aside0.mk (Kd.R_elder' (by (with_reducible repeat (first | apply Kd.R_alloc | apply Kd.R_drewN | apply Kd.R_drew)); exact HO111.1) (Kd.R_base ho0) hb)
      have n3_ := Aside0.mk (Kd.R_lower (Kd.R_new' (Kd.R_new' ho0 (Kd.R_lt (pY43))) (Kd.R_lt (by (with_reducible repeat (first | apply Kd.R_alloc | apply Kd.R_drewN | apply Kd.R_drew)); exact HO111.1))) (below_size (pY24)))
      have n4_ := Aside0.mk (blk_below (g := gb101) (o := .cells #[.slice A0_0 l0_0.length c0_0, .slice (some ad107) l0_1.length c0_1] 31 (0, 0)) (pY38) hb)
      have n5_ := Aside0.mk (blk_below (g := gb102) (o := .cells #[.slice none 0 0, .slice none 0 0] 31 (0, 0)) (pY39) hb)
      have n6_ := Aside0.mk (blk_below (g := gb106) (o := .cells #[.slice Ao8 t103.length co8, u107001] 31 (0, 0)) (pY40) hb)
      have n7_ := Aside0.mk (below_step (pY24) hb)
      clear HO_107000
      clear HO_107001
      clear HO111
      clear BK101
      clear BK102
      clear BK106
      clear HB
      have HO_107000 := n0_
      have HO_107001 := n1_
      have HO111 := n2_
      have HO115 := n3_
      have BK101 := n4_
      have BK102 := n5_
      have BK106 := n6_
      have HB := n7_
      clear n0_ n1_ n2_ n3_ n4_ n5_ n6_ n7_
      (try clear hb)
      (try clear hb2)
      (try clear hk)
      (try clear hi)
      (try clear ho0)
      obtain ⟨Ao24, co24, eo24⟩ := Kd.R_slice HO115.1
      (first | subst eo24 | (injection eo24 with f1_ f2_ f3_; have f4_ := f1_.symm; have f5_ := f3_.symm; clear f1_ f2_ f3_; subst f4_; subst f5_))
      obtain ⟨Ao25, co25, eo25⟩ := Kd.R_slice HO111.1
      (first | subst eo25 | (injection eo25 with f1_ f2_ f3_; have f4_ := f1_.symm; have f5_ := f3_.symm; clear f1_ f2_ f3_; subst f4_; subst f5_))
      refine hK.out _ _ ⟨(blk_cell BK106.1 0).trans rfl, (blk_cell BK106.1 1).trans rfl, (blk_cell BK101.1 0).trans rfl, (blk_cell BK101.1 1).trans rfl, ((HB.1.cell (World.block_lt_of_cell? w _ hw107_0)).trans hw107_0), ((HB.1.cell (World.block_lt_of_cell? w _ hw107_1)).trans hw107_1), ((HB.1.cell (World.block_lt_of_cell? w _ hw107_2)).trans hw107_2), ((HB.1.cell (World.block_lt_of_cell? w _ hw108_0)).trans hw108_0), ((HB.1.cell (World.block_lt_of_cell? w _ hw108_1)).trans hw108_1), ((HB.1.cell (World.block_lt_of_cell? w _ hw108_2)).trans hw108_2), ((HB.1.cell (World.block_lt_of_cell? w _ hw112_0)).trans hw112_0), ((HB.1.cell (World.block_lt_of_cell? w _ hw112_1)).trans hw112_1), ((HB.1.cell (World.block_lt_of_cell? w _ hw112_2)).trans hw112_2)⟩ (fun hHeld => ?_)
      clear hK K
      refine norm_ (a' := ?_) ?_ ?_
      rotate_left
      ·show Act.put _ (some 37) _ = _
       simp only [pW]
       rfl
      refine pU (i := 22) (N := some 38) #[tt,tt,tt,tt,tt,tt,tt,tt,tt,tt,tt,tt,tt,tt,tt,tt,tt,tt,tt,tt,tt,tt,tt,ff,ff,ff,ff] ?_
      refine one_ (i := 23) (N := some 39) #[tt,tt,tt,tt,tt,tt,tt,tt,tt,tt,tt,tt,tt,tt,tt,tt,tt,tt,tt,tt,tt,tt,tt,tt,ff,ff,ff] rfl rfl (one_of HT_.out (by kernel_rfl)) (by decide) (fun K hK => ?_)
      refine value_ (w1 := ?_) (v := ?_) (by rfl) rfl ?_ ?_
      rotate_left 2
      ·go_simp
       constructor
       ·rfl
       ·rfl
      refine hK.out _ _ ⟨(blk_cell (blk_alloc BK106.1 _) 0).trans rfl, (blk_cell (blk_alloc BK106.1 _) 1).trans rfl, (blk_cell (blk_alloc BK101.1 _) 0).trans rfl, (blk_cell (blk_alloc BK101.1 _) 1).trans rfl, (World.cell?_alloc_lt _ _ _ (World.block_lt_of_cell? _ _ (((HB.1.cell (World.block_lt_of_cell? w _ hw107_0)).trans hw107_0)))).trans (((HB.1.cell (World.block_lt_of_cell? w _ hw107_0)).trans hw107_0)), (World.cell?_alloc_lt _ _ _ (World.block_lt_of_cell? _ _ (((HB.1.cell (World.block_lt_of_cell? w _ hw107_1)).trans hw107_1)))).trans (((HB.1.cell (World.block_lt_of_cell? w _ hw107_1)).trans hw107_1)), (World.cell?_alloc_lt _ _ _ (World.block_lt_of_cell? _ _ (((HB.1.cell (World.block_lt_of_cell? w _ hw107_2)).trans hw107_2)))).trans (((HB.1.cell (World.block_lt_of_cell? w _ hw107_2)).trans hw107_2)), (World.cell?_alloc_lt _ _ _ (World.block_lt_of_cell? _ _ (((HB.1.cell (World.block_lt_of_cell? w _ hw108_0)).trans hw108_0)))).trans (((HB.1.cell (World.block_lt_of_cell? w _ hw108_0)).trans hw108_0)), (World.cell?_alloc_lt _ _ _ (World.block_lt_of_cell? _ _ (((HB.1.cell (World.block_lt_of_cell? w _ hw108_1)).trans hw108_1)))).trans (((HB.1.cell (World.block_lt_of_cell? w _ hw108_1)).trans hw108_1)), (World.cell?_alloc_lt _ _ _ (World.block_lt_of_cell? _ _ (((HB.1.cell (World.block_lt_of_cell? w _ hw108_2)).trans hw108_2)))).trans (((HB.1.cell (World.block_lt_of_cell? w _ hw108_2)).trans hw108_2)), (World.cell?_alloc_lt _ _ _ (World.block_lt_of_cell? _ _ (((HB.1.cell (World.block_lt_of_cell? w _ hw112_0)).trans hw112_0)))).trans (((HB.1.cell (World.block_lt_of_cell? w _ hw112_0)).trans hw112_0)), (World.cell?_alloc_lt _ _ _ (World.block_lt_of_cell? _ _ (((HB.1.cell (World.block_lt_of_cell? w _ hw112_1)).trans hw112_1)))).trans (((HB.1.cell (World.block_lt_of_cell? w _ hw112_1)).trans hw112_1)), (World.cell?_alloc_lt _ _ _ (World.block_lt_of_cell? _ _ (((HB.1.cell (World.block_lt_of_cell? w _ hw112_2)).trans hw112_2)))).trans (((HB.1.cell (World.block_lt_of_cell? w _ hw112_2)).trans hw112_2))⟩ (fun hHeld => ?_)
      clear hK K
      refine norm_ (a' := ?_) ?_ ?_
      rotate_left
      ·show Act.put _ (some 39) _ = _
       simp only [pW]
       rfl
      refine one_ (i := 24) (N := some 40) #[tt,tt,tt,tt,tt,tt,tt,tt,tt,tt,tt,tt,tt,tt,tt,tt,tt,tt,tt,tt,tt,tt,tt,tt,tt,ff,ff] rfl rfl (one_of HT_.out (by kernel_rfl)) (by decide) (fun K hK => ?_)
      refine Kd.S_append_step k56 (w0 := w) w.heap.size (by rfl) (.tmp 17) (.tmp 39) 29 56 (.agg #[(.string ⟨#[]⟩), (.slice none 0 0), (.slice none 0 0)]) 64 rfl Try.underlying29 info56 rfl (by decide) (by omega) u107001 x107001_1 (⟨(rd_T56 l0_1 x4_1).f0, t109, t113⟩ : S56) [.string ((rd_T56 l0_1 x4_1).f0), .slice Ao25 t109.length co25, .slice Ao24 t113.length co24] (fun k_ => some k_ ≠ (.slice Ao8 t103.length co8 : Value).ownBlock) (fun k_ => some k_ = (.slice Ao25 t109.length co25 : Value).ownBlock ∨ some k_ = (.slice Ao24 t113.length co24 : Value).ownBlock) rfl rfl ?aP (fun k_ hk_ => hk_.elim (fun h_ => ((Kd.R_mono (ok' := fun k_ => ((fun k_ => some k_ ≠ (.slice Ao8 t103.length co8 : Value).ownBlock)) k_ ∧ some k_ ≠ (u107001 : Value).ownBlock) (Kd.R_apart' (HO111.1) (Kd.S_typed HO_107001.1) (by decide)) (fun k_ hk => ⟨hk.1.1.2, hk.2⟩))).1 k_ h_.symm) (fun h_ => ((Kd.R_mono (ok' := fun k_ => ((fun k_ => some k_ ≠ (.slice Ao8 t103.length co8 : Value).ownBlock)) k_ ∧ some k_ ≠ (u107001 : Value).ownBlock) (Kd.R_apart' (HO115.1) (Kd.S_typed HO_107001.1) (by decide)) (fun k_ hk => ⟨hk.1.1.2, hk.2⟩))).1 k_ h_.symm)) ?aF ?aO ?aB ?aS ?aL ?_
      (case aP => exact k56_mkM _ _ _ (⟨(rd_T56 l0_1 x4_1).f0, t109, t113⟩ : S56) (Kd.R_mono (Kd.R_tight rfl (Kd.R_mono (ok' := fun k_ => ((fun k_ => some k_ ≠ (.slice Ao8 t103.length co8 : Value).ownBlock)) k_ ∧ some k_ ≠ (u107001 : Value).ownBlock) (Kd.R_apart' (HO111.1) (Kd.S_typed HO_107001.1) (by decide)) (fun k_ hk => ⟨hk.1.1.2, hk.2⟩))) (fun _ h_ => Or.inl h_)) (Kd.R_mono (Kd.R_tight rfl (Kd.R_mono (ok' := fun k_ => ((fun k_ => some k_ ≠ (.slice Ao8 t103.length co8 : Value).ownBlock)) k_ ∧ some k_ ≠ (u107001 : Value).ownBlock) (Kd.R_apart' (HO115.1) (Kd.S_typed HO_107001.1) (by decide)) (fun k_ hk => ⟨hk.1.1.2, hk.2⟩))) (fun _ h_ => Or.inr (h_))) (sep_of HO111.1 HO115.1))
      (case aB => exact (pY24))
      (case aF => exact (fun k_ hk => Kd.fresh' (Kd.R_lt (pY43)) k_ hk))
      (case aO => exact (by (with_reducible repeat (first | apply Kd.S_alloc | apply Kd.S_drewN | apply Kd.S_drew)); exact Kd.S_mono HO_107001.1 (fun k_ hk => ⟨hk.1.1, fun e_ => e_.elim (fun h_ => hk.1.2 h_) (fun h_ => hk.2 h_)⟩)))
      (case aS => exact (below_size (pY24)))
      (case aL => have := LMc17.out; omega)
      intro v117 w26 ho hb hg hat
      rw [← Ny116.out] at ho
      have n0_ := Aside0.mk (Kd.R_over' (pY43) (Kd.S_typed (pY44)) (by decide) hg)
      have n1_ := Aside0.mk (blk_grown (g := gb101) (o := .cells #[.slice A0_0 l0_0.length c0_0, .slice (some ad107) l0_1.length c0_1] 31 (0, 0)) (pY38) hg (Kd.S_ne HO_107001.1 BK101.1 (by decide)))
      have n2_ := Aside0.mk (blk_grown (g := gb102) (o := .cells #[.slice none 0 0, .slice none 0 0] 31 (0, 0)) (pY39) hg (Kd.S_ne HO_107001.1 BK102.1 (by decide)))
      have n3_ := Aside0.mk (blk_grown (g := gb106) (o := .cells #[.slice Ao8 t103.length co8, u107001] 31 (0, 0)) (pY40) hg (Kd.S_ne HO_107001.1 BK106.1 (by decide)))
      have n4_ := Aside0.mk (hb)
      have n5_ := Aside0.mk (ho)
      clear HO_107000
      clear BK101
      clear BK102
      clear BK106
      clear HB
      clear HO_107001
      clear HO111
      clear HO115
      have HO_107000 := n0_
      have BK101 := n1_
      have BK102 := n2_
      have BK106 := n3_
      have HB := n4_
      have HO118 := n5_
      clear n0_ n1_ n2_ n3_ n4_ n5_
      clear ho hb hg hat
      obtain ⟨Ao27, co27, eo27⟩ := Kd.S_slice HO118.1
      (first | subst eo27 | (injection eo27 with f1_ f2_ f3_; have f4_ := f1_.symm; have f5_ := f3_.symm; clear f1_ f2_ f3_; subst f4_; subst f5_))
      refine hK.out _ _ ⟨(blk_cell BK106.1 0).trans rfl, (blk_cell BK106.1 1).trans rfl, (blk_cell BK101.1 0).trans rfl, (blk_cell BK101.1 1).trans rfl, ((HB.1.cell (World.block_lt_of_cell? w _ hw107_0)).trans hw107_0), ((HB.1.cell (World.block_lt_of_cell? w _ hw107_1)).trans hw107_1), ((HB.1.cell (World.block_lt_of_cell? w _ hw107_2)).trans hw107_2), ((HB.1.cell (World.block_lt_of_cell? w _ hw108_0)).trans hw108_0), ((HB.1.cell (World.block_lt_of_cell? w _ hw108_1)).trans hw108_1), ((HB.1.cell (World.block_lt_of_cell? w _ hw108_2)).trans hw108_2), ((HB.1.cell (World.block_lt_of_cell? w _ hw112_0)).trans hw112_0), ((HB.1.cell (World.block_lt_of_cell? w _ hw112_1)).trans hw112_1), ((HB.1.cell (World.block_lt_of_cell? w _ hw112_2)).trans hw112_2)⟩ (fun hHeld => ?_)
      clear hK K
      refine norm_ (a' := ?_) ?_ ?_
      rotate_left
      ·show Act.put _ (some 40) _ = _
       simp only [pW]
       rfl
      refine pU (i := 25) (N := some 41) #[tt,tt,tt,tt,tt,tt,tt,tt,tt,tt,tt,tt,tt,tt,tt,tt,tt,tt,tt,tt,tt,tt,tt,tt,tt,tt,ff] ?_
      refine last_ (i := 26) (N := none) #[tt,tt,tt,tt,tt,tt,tt,tt,tt,tt,tt,tt,tt,tt,tt,tt,tt,tt,tt,tt,tt,tt,tt,tt,tt,tt,tt] rfl rfl (one_of HT_.out (by kernel_rfl)) (by decide) (fun K hK => ?_)
      have hs28 : w26.cell? ⟨gb106, 1, none⟩ = some (u107001) := (blk_cell BK106.1 1).trans rfl
      have hfs28 := blk_frozen BK106.1 1
      have hns28_0 := NB101_106.1
      have hns28_1 := NB102_106.1
      have hms28_0 := NB106_101.1
      have hms28_1 := NB106_102.1
      refine skip_ (w1 := ?_) (by rfl) rfl ?_ ?_
      rotate_left
      ·go_simp
       rfl
      refine hK.out _ _ ?_
      clear hK K
      refine done_ (done_of HT_.out (by kernel_rfl)) ?_
      try go_wp2
      go_roundg k1
      case measure => have := HK1.out; omega
      case rel => exact ⟨(wrap64 (x4_1 + 1)), (y116), (.slice Ao27 y116.length co27), (pY51), H', ⟨by have := HK1.out; omega⟩, ⟨by (with_reducible repeat (first | apply Kd.R_alloc | apply Kd.R_drewN | apply Kd.R_drew)); exact Kd.R_mono (Kd.R_far (p := ⟨gb106, 1, none⟩) (Kd.R_types HO_107000.1 BK106.1 (by decide)) (fun _ hk => hk.2) (.slice Ao27 y116.length co27)) (fun _ hk => trivial)⟩, ⟨by (with_reducible repeat (first | apply Kd.S_alloc | apply Kd.S_drewN | apply Kd.S_drew)); exact Kd.S_mono (Kd.S_far (p := ⟨gb106, 1, none⟩) (Kd.S_types HO118.1 BK106.1 (by decide)) (fun _ hk => hk.2) (.slice Ao27 y116.length co27)) (fun _ hk => hk.1)⟩, ⟨by (with_reducible repeat (first | refine blk_drewN ?_ _ | refine blk_drew ?_ | refine blk_alloc ?_ _)); refine blk_far ?_ NB101_106.1 _; (with_reducible repeat (first | refine blk_drewN ?_ _ | refine blk_drew ?_ | refine blk_alloc ?_ _)); exact BK101.1⟩, ⟨by (with_reducible repeat (first | refine blk_drewN ?_ _ | refine blk_drew ?_ | refine blk_alloc ?_ _)); refine blk_far ?_ NB102_106.1 _; (with_reducible repeat (first | refine blk_drewN ?_ _ | refine blk_drew ?_ | refine blk_alloc ?_ _)); exact BK102.1⟩, ⟨by (with_reducible repeat (first | refine blk_drewN ?_ _ | refine blk_drew ?_ | refine blk_alloc ?_ _)); refine blk_put (cs := #[.slice Ao8 t103.length co8, u107001]) ?_ 1 _ rfl; (with_reducible repeat (first | refine blk_drewN ?_ _ | refine blk_drew ?_ | refine blk_alloc ?_ _)); exact BK106.1⟩, ⟨pY24⟩⟩
     ·rw [if_neg c17] at H
      exact absurd H (by simp)
    ·rw [if_neg c14] at H
     exact absurd H (by simp)
   ·rw [if_neg c13] at H
    have c13b0 : decide (x4_1 < (l0_1.length : Int)) = false := decide_eq_false c13
    clear c13
    simp only [Option.some.injEq, Prod.mk.injEq] at H
    obtain ⟨rfl, rfl⟩ := H
    have hnb29 := NB101_102.1
    have hnc29 := NB102_101.1
    have hnb30 := NB101_106.1
    have hnc30 := NB106_101.1
    have hcz31_0 : wr.cell? ⟨gb101, 0, none⟩ = some (.slice A0_0 l0_0.length c0_0) := (blk_cell BK101.1 0).trans rfl
    have hcz31_1 : wr.cell? ⟨gb101, 1, none⟩ = some (.slice A0_1 l0_1.length c0_1) := (blk_cell BK101.1 1).trans rfl
    have hfz31_0 := blk_frozen BK101.1 0
    have hfz31_1 := blk_frozen BK101.1 1
    have hnb32 := NB106_102.1
    have hnc32 := NB102_106.1
    have hcz33_0 : wr.cell? ⟨gb106, 0, none⟩ = some (.slice Ao8 t103.length co8) := (blk_cell BK106.1 0).trans rfl
    have hcz33_1 : wr.cell? ⟨gb106, 1, none⟩ = some (u107001) := (blk_cell BK106.1 1).trans rfl
    have hfz33_0 := blk_frozen BK106.1 0
    have hfz33_1 := blk_frozen BK106.1 1
    have hcz34_0 : wr.cell? ⟨gb102, 0, none⟩ = some (.slice none 0 0) := (blk_cell BK102.1 0).trans rfl
    have hcz34_1 : wr.cell? ⟨gb102, 1, none⟩ = some (.slice none 0 0) := (blk_cell BK102.1 1).trans rfl
    have hfz34_0 := blk_frozen BK102.1 0
    have hfz34_1 := blk_frozen BK102.1 1
    obtain ⟨Ao35, co35, eo35⟩ := Kd.S_slice HO_107001.1
    subst eo35
    go_wp2
    refine bodyPost_ret (results_cell_row rfl _ _ gb102 31 #[.slice Ao8 t103.length co8, .slice Ao35 x107001_1.length co35] (0, 0) _ rfl (by (with_reducible repeat (first | refine blk_drewN ?_ _ | refine blk_drew ?_ | refine blk_alloc ?_ _)); refine blk_put (cs := #[.slice Ao8 t103.length co8, .slice none 0 0]) ?_ 1 _ rfl; (with_reducible repeat (first | refine blk_drewN ?_ _ | refine blk_drew ?_ | refine blk_alloc ?_ _)); refine blk_put (cs := #[.slice none 0 0, .slice none 0 0]) ?_ 0 _ rfl; (with_reducible repeat (first | refine blk_drewN ?_ _ | refine blk_drew ?_ | refine blk_alloc ?_ _)); exact BK102.1) Try.underlying31 rfl (by kernel_rfl)) rfl ?_
    exact ⟨_, _, by first | rfl | (simp [errW_none, errW_some] <;> rfl) | (simp [*, errW_none, errW_some] <;> rfl), by (with_reducible repeat (first | apply Kd.R_alloc | apply Kd.R_drewN | apply Kd.R_drew)); exact Kd.R_mono (Kd.R_far (p := ⟨gb102, 1, none⟩) (Kd.R_far (p := ⟨gb102, 0, none⟩) (Kd.R_types HO_107000.1 BK102.1 (by decide)) (fun _ hk => hk.2) (.slice Ao8 t103.length co8)) (fun _ hk => hk.2) (.slice Ao35 x107001_1.length co35)) (fun _ hk => trivial), by (with_reducible repeat (first | apply Kd.S_alloc | apply Kd.S_drewN | apply Kd.S_drew)); exact Kd.S_mono (Kd.S_far (p := ⟨gb102, 1, none⟩) (Kd.S_far (p := ⟨gb102, 0, none⟩) (Kd.S_types HO_107001.1 BK102.1 (by decide)) (fun _ hk => hk.2) (.slice Ao8 t103.length co8)) (fun _ hk => hk.2) (.slice Ao35 x107001_1.length co35)) (fun _ hk => hk.1), pY24⟩
end Go.Proofs.Ytaofjgnhapnndaa.Q
