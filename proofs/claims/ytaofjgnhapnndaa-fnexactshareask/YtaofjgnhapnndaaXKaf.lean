/- Texts that the row needs: words on memory and rows, the contracts of the functions it reaches, and the plain lemmas on what they compute. -/
import Derived.Below
import Derived.Deep.Draws
import Derived.Deep.AppendLies
import Derived.Maps.AppendAt
import Derived.OwnWalk
import Derived.Laws.BytesArg
import Derived.Laws.MakeOwn
import Derived.Laws.OwnMore
import Derived.Deep.OwnRows
import Derived.Tactics
import Derived.Lib.ConvBytes
import Derived.Laws.Slices
import Derived.WalkKit
import Derived.KernelRfl
import Derived.RowKit3
import Derived.Deep.LoopGhost
import Derived.Deep.QuietTactic
import Derived.BigQuiet
import Derived.WideLaws
import Derived.Deep.DeepCutAuto
import Derived.Deep.CutBlock
import Derived.Deep.RegionHeld3
import Derived.Laws.Rows
import Derived.Lib.AppendStr
import Derived.ArgAppend
import Derived.Laws.IdiomCopy
import Derived.RowKit
import Derived.OrdersHeld
import Derived.Laws.BitsLemmas
import Derived.Laws.StructEq
import Derived.Test.YtaofjgnhapnndaaProg
import Derived.WalkLawsBesides
import Derived.Test.YtaofjgnhapnndaaRows
import Derived.ProofKit
import Derived.Test.YtaofjgnhapnndaaXKaa
import Derived.Test.YtaofjgnhapnndaaXKab
import Derived.Test.YtaofjgnhapnndaaXKac
import Derived.Test.YtaofjgnhapnndaaXKad
import Derived.Test.YtaofjgnhapnndaaXKae
open Go.Proofs.YtaofjgnhapnndaaFK
namespace Go.Proofs.Ytaofjgnhapnndaa.Q
open Go.RowKit Go.Proofs.YtaofjgnhapnndaaW.PrintWords Go.Proofs.YtaofjgnhapnndaaW.PrintLast Go.Proofs.YtaofjgnhapnndaaW.PrintMore
set_option linter.unusedVariables false
set_option linter.unusedSimpArgs false
def spec_l1NamesOk.l0 : Nat → List ByteArray → List ByteArray → Int → Option (Bool)
 | 0, _, _, _ => none
 | k + 1, x0, x1, x5 => if x5 < (x0.length : Int) then (if 0 ≤ x5 then ((spec_l1Has.f k x1 (rdOf ByteArray.empty x0 x5)).bind fun t102 => (if t102 = true then (if x5 > 0 then (if 0 ≤ (wrap64 (x5 - 1)) then (if (wrap64 (x5 - 1)) < (x0.length : Int) then (if ((Op.bytesLess ((rdOf ByteArray.empty x0 (wrap64 (x5 - 1))).toList) ((rdOf ByteArray.empty x0 x5).toList)) = true) then (spec_l1NamesOk.l0 k x0 x1 (wrap64 (x5 + 1))) else (some false)) else (none)) else (none)) else (spec_l1NamesOk.l0 k x0 x1 (wrap64 (x5 + 1)))) else (some false))) else (none)) else (some true)
def spec_l1NamesOk.f (k : Nat) (l0 : List ByteArray) (l1 : List ByteArray) : Option (Bool) := spec_l1NamesOk.l0 k l0 l1 0
set_option maxHeartbeats 8000000 in
set_option maxRecDepth 100000 in
theorem spec_l1NamesOk.calls (k : Nat) (A0 : Option Addr) (c0 : Nat) (l0 : List ByteArray) (A1 : Option Addr) (c1 : Nat) (l1 : List ByteArray) (r : Bool) (w : World) (hr0 : Kd.C Kd.string w A0 l0.length l0) (hc0 : l0.length ≤ c0) (hr1 : Kd.C Kd.string w A1 l1.length l1) (hc1 : l1.length ≤ c1) (h : spec_l1NamesOk.f k l0 l1 = some r) :
  Calls Try.prog 71 #[.slice A0 l0.length c0, .slice A1 l1.length c1] w fun e w' => e = .returned (.bool r) ∧ Drawn0 w w' := by
 have HR0 := am hr0
 have HC0 := am hc0
 clear hr0 hc0
 have HR1 := am hr1
 have HC1 := am hc1
 clear hr1 hc1
 have H : (spec_l1NamesOk.l0 k l0 l1 0) = some r := h
 clear h
 have H' := am H
 clear H
 go_enter Try.func71, Try.ntmps71
 go_wp2
 repeat (go_quiet (fail); try go_wp2)
 go_loopg [5] k (fun kq v5 w' => ∃ (x5_1 : Int), v5 = .int .i64 x5_1 ∧ Aside0 (spec_l1NamesOk.l0 kq l0 l1 x5_1 = some r) ∧ Aside0 (kq ≤ k) ∧ Drawn0 w w')
 case atStart => exact ⟨(0), (pY83), H', ⟨Nat.le_refl _⟩, pY80⟩
 case round =>
  clear H'
  try clear c1
  obtain ⟨x5_1, rfl, HA, HK1, ⟨m1, rfl⟩⟩ := hrel
  cases gk with
  | zero => exact absurd HA.out (by simp [spec_l1NamesOk.l0])
  | succ k1 =>
   have H := HA.out
   clear HA
   simp only [spec_l1NamesOk.l0] at H
   by_cases c3 : x5_1 < (l0.length : Int)
   ·rw [if_pos c3] at H
    have c3b0 : decide (x5_1 < (l0.length : Int)) = true := decide_eq_true c3
    clear c3
    by_cases c4 : 0 ≤ x5_1
    ·rw [if_pos c4] at H
     have c4b0 : decide (0 ≤ x5_1) = true := decide_eq_true c4
     clear c4
     obtain ⟨t102, A5, H⟩ := bd H
     by_cases c6 : t102 = true
     ·subst c6
      replace H := iT H
      by_cases c7 : x5_1 > 0
      ·rw [if_pos c7] at H
       have c7b0 : decide (0 < x5_1) = true := decide_eq_true c7
       clear c7
       obtain ⟨ji8, hji8⟩ : ∃ j_ : Int, (wrap64 (x5_1 - 1)) = j_ := ⟨_, rfl⟩
       replace H : (if 0 ≤ (ji8) then (if (ji8) < (l0.length : Int) then (if ((Op.bytesLess ((rdOf ByteArray.empty l0 (ji8)).toList) ((rdOf ByteArray.empty l0 x5_1).toList)) = true) then (spec_l1NamesOk.l0 k1 l0 l1 (wrap64 (x5_1 + 1))) else (some false)) else (none)) else (none)) = some r := by first | (rw [hji8] at H; exact H) | (simp only [hji8] at H ⊢; exact H)
       (try rw [hji8] at A5)
       have hji8w : (IntKind.i64.wrap (x5_1 - 1)) = ji8 := (i64_w _).trans hji8
       by_cases c9 : 0 ≤ (ji8)
       ·rw [if_pos c9] at H
        have c9b0 : decide (0 ≤ (ji8)) = true := decide_eq_true c9
        clear c9
        by_cases c10 : (ji8) < (l0.length : Int)
        ·rw [if_pos c10] at H
         have c10b0 : decide ((ji8) < (l0.length : Int)) = true := decide_eq_true c10
         clear c10
         by_cases c11 : ((Op.bytesLess ((rdOf ByteArray.empty l0 (ji8)).toList) ((rdOf ByteArray.empty l0 x5_1).toList)) = true)
         ·rw [if_pos c11] at H
          have c11b0 : (Op.bytesLess ((rdOf ByteArray.empty l0 (ji8)).toList) ((rdOf ByteArray.empty l0 x5_1).toList)) = true := c11
          clear c11
          have H' := am H
          clear H
          have p101 : 0 ≤ (x5_1 : Int) := of_decide_eq_true (pY82)
          have q101 : x5_1 < (l0.length : Int) := of_decide_eq_true (pY82)
          obtain ⟨ad101, e101, hx101_0⟩ := Kd.at_string HR0.1 x5_1 p101 q101
          cases e101
          replace p101 := eq_true p101
          replace q101 := eq_true q101
          go_wp2_with (first | (go_at_call 80; refine cM (spec_l1Has.calls k1 _ _ l1 (rdOf ByteArray.empty l0 x5_1) true _ (pC HR1.1) HC1.1 A5.out) ?_; rintro w' ⟨nd, rfl⟩; (try first | exact ⟨rfl, _, World.drewN_drewN _ _ _⟩ | exact ⟨rfl, _, Eq.trans (World.drewN_drewN _ _ _) (congrArg (World.drewN _) (Nat.add_assoc _ _ _))⟩); have p103 : 0 ≤ ((ji8) : Int) := of_decide_eq_true (pY82); have q103 : (ji8) < (l0.length : Int) := of_decide_eq_true (pY82); obtain ⟨ad103, e103, hx103_0⟩ := Kd.at_string HR0.1 (ji8) p103 q103; obtain rfl : ad101 = ad103 := (by injection e103); replace p103 := eq_true p103; replace q103 := eq_true q103; have p104 : 0 ≤ (x5_1 : Int) := of_decide_eq_true (pY82); have q104 : x5_1 < (l0.length : Int) := of_decide_eq_true (pY82); obtain ⟨ad104, e104, hx104_0⟩ := Kd.at_string HR0.1 x5_1 p104 q104; obtain rfl : ad101 = ad104 := (by injection e104); replace p104 := eq_true p104; replace q104 := eq_true q104))
          repeat (go_quiet (first | (go_at_call 80; (with_reducible refine (spec_l1Has.calls k1 _ _ l1 (rdOf ByteArray.empty l0 x5_1) true _ ?side1 ?side2 A5.out).mono ?_); (case side1 => exact pC HR1.1); (case side2 => exact HC1.1); rintro e w' ⟨rfl, ⟨nd, rfl⟩⟩; (try first | exact ⟨rfl, _, World.drewN_drewN _ _ _⟩ | exact ⟨rfl, _, Eq.trans (World.drewN_drewN _ _ _) (congrArg (World.drewN _) (Nat.add_assoc _ _ _))⟩); have p103 : 0 ≤ ((ji8) : Int) := of_decide_eq_true (pY82); have q103 : (ji8) < (l0.length : Int) := of_decide_eq_true (pY82); obtain ⟨ad103, e103, hx103_0⟩ := Kd.at_string HR0.1 (ji8) p103 q103; obtain rfl : ad101 = ad103 := (by injection e103); replace p103 := eq_true p103; replace q103 := eq_true q103; have p104 : 0 ≤ (x5_1 : Int) := of_decide_eq_true (pY82); have q104 : x5_1 < (l0.length : Int) := of_decide_eq_true (pY82); obtain ⟨ad104, e104, hx104_0⟩ := Kd.at_string HR0.1 x5_1 p104 q104; obtain rfl : ad101 = ad104 := (by injection e104); replace p104 := eq_true p104; replace q104 := eq_true q104)); try go_wp2_with (first | (go_at_call 80; (with_reducible refine (spec_l1Has.calls k1 _ _ l1 (rdOf ByteArray.empty l0 x5_1) true _ ?side1 ?side2 A5.out).mono ?_); (case side1 => exact pC HR1.1); (case side2 => exact HC1.1); rintro e w' ⟨rfl, ⟨nd, rfl⟩⟩; (try first | exact ⟨rfl, _, World.drewN_drewN _ _ _⟩ | exact ⟨rfl, _, Eq.trans (World.drewN_drewN _ _ _) (congrArg (World.drewN _) (Nat.add_assoc _ _ _))⟩); have p103 : 0 ≤ ((ji8) : Int) := of_decide_eq_true (pY82); have q103 : (ji8) < (l0.length : Int) := of_decide_eq_true (pY82); obtain ⟨ad103, e103, hx103_0⟩ := Kd.at_string HR0.1 (ji8) p103 q103; obtain rfl : ad101 = ad103 := (by injection e103); replace p103 := eq_true p103; replace q103 := eq_true q103; have p104 : 0 ≤ (x5_1 : Int) := of_decide_eq_true (pY82); have q104 : x5_1 < (l0.length : Int) := of_decide_eq_true (pY82); obtain ⟨ad104, e104, hx104_0⟩ := Kd.at_string HR0.1 x5_1 p104 q104; obtain rfl : ad101 = ad104 := (by injection e104); replace p104 := eq_true p104; replace q104 := eq_true q104)))
          go_roundg k1
          case measure => have := HK1.out; omega
          case rel => exact ⟨(wrap64 (x5_1 + 1)), (pY83), H', ⟨by have := HK1.out; omega⟩, pY80⟩
         ·rw [if_neg c11] at H
          have c11b0 : (Op.bytesLess ((rdOf ByteArray.empty l0 (ji8)).toList) ((rdOf ByteArray.empty l0 x5_1).toList)) = false := by simpa using c11
          clear c11
          obtain rfl := Option.some.inj H
          have p101 : 0 ≤ (x5_1 : Int) := of_decide_eq_true (pY82)
          have q101 : x5_1 < (l0.length : Int) := of_decide_eq_true (pY82)
          obtain ⟨ad101, e101, hx101_0⟩ := Kd.at_string HR0.1 x5_1 p101 q101
          cases e101
          replace p101 := eq_true p101
          replace q101 := eq_true q101
          go_wp2_with (first | (go_at_call 80; refine cM (spec_l1Has.calls k1 _ _ l1 (rdOf ByteArray.empty l0 x5_1) true _ (pC HR1.1) HC1.1 A5.out) ?_; rintro w' ⟨nd, rfl⟩; (try first | exact ⟨rfl, _, World.drewN_drewN _ _ _⟩ | exact ⟨rfl, _, Eq.trans (World.drewN_drewN _ _ _) (congrArg (World.drewN _) (Nat.add_assoc _ _ _))⟩); have p103 : 0 ≤ ((ji8) : Int) := of_decide_eq_true (pY82); have q103 : (ji8) < (l0.length : Int) := of_decide_eq_true (pY82); obtain ⟨ad103, e103, hx103_0⟩ := Kd.at_string HR0.1 (ji8) p103 q103; obtain rfl : ad101 = ad103 := (by injection e103); replace p103 := eq_true p103; replace q103 := eq_true q103; have p104 : 0 ≤ (x5_1 : Int) := of_decide_eq_true (pY82); have q104 : x5_1 < (l0.length : Int) := of_decide_eq_true (pY82); obtain ⟨ad104, e104, hx104_0⟩ := Kd.at_string HR0.1 x5_1 p104 q104; obtain rfl : ad101 = ad104 := (by injection e104); replace p104 := eq_true p104; replace q104 := eq_true q104))
          repeat (go_quiet (first | (go_at_call 80; (with_reducible refine (spec_l1Has.calls k1 _ _ l1 (rdOf ByteArray.empty l0 x5_1) true _ ?side1 ?side2 A5.out).mono ?_); (case side1 => exact pC HR1.1); (case side2 => exact HC1.1); rintro e w' ⟨rfl, ⟨nd, rfl⟩⟩; (try first | exact ⟨rfl, _, World.drewN_drewN _ _ _⟩ | exact ⟨rfl, _, Eq.trans (World.drewN_drewN _ _ _) (congrArg (World.drewN _) (Nat.add_assoc _ _ _))⟩); have p103 : 0 ≤ ((ji8) : Int) := of_decide_eq_true (pY82); have q103 : (ji8) < (l0.length : Int) := of_decide_eq_true (pY82); obtain ⟨ad103, e103, hx103_0⟩ := Kd.at_string HR0.1 (ji8) p103 q103; obtain rfl : ad101 = ad103 := (by injection e103); replace p103 := eq_true p103; replace q103 := eq_true q103; have p104 : 0 ≤ (x5_1 : Int) := of_decide_eq_true (pY82); have q104 : x5_1 < (l0.length : Int) := of_decide_eq_true (pY82); obtain ⟨ad104, e104, hx104_0⟩ := Kd.at_string HR0.1 x5_1 p104 q104; obtain rfl : ad101 = ad104 := (by injection e104); replace p104 := eq_true p104; replace q104 := eq_true q104)); try go_wp2_with (first | (go_at_call 80; (with_reducible refine (spec_l1Has.calls k1 _ _ l1 (rdOf ByteArray.empty l0 x5_1) true _ ?side1 ?side2 A5.out).mono ?_); (case side1 => exact pC HR1.1); (case side2 => exact HC1.1); rintro e w' ⟨rfl, ⟨nd, rfl⟩⟩; (try first | exact ⟨rfl, _, World.drewN_drewN _ _ _⟩ | exact ⟨rfl, _, Eq.trans (World.drewN_drewN _ _ _) (congrArg (World.drewN _) (Nat.add_assoc _ _ _))⟩); have p103 : 0 ≤ ((ji8) : Int) := of_decide_eq_true (pY82); have q103 : (ji8) < (l0.length : Int) := of_decide_eq_true (pY82); obtain ⟨ad103, e103, hx103_0⟩ := Kd.at_string HR0.1 (ji8) p103 q103; obtain rfl : ad101 = ad103 := (by injection e103); replace p103 := eq_true p103; replace q103 := eq_true q103; have p104 : 0 ≤ (x5_1 : Int) := of_decide_eq_true (pY82); have q104 : x5_1 < (l0.length : Int) := of_decide_eq_true (pY82); obtain ⟨ad104, e104, hx104_0⟩ := Kd.at_string HR0.1 x5_1 p104 q104; obtain rfl : ad101 = ad104 := (by injection e104); replace p104 := eq_true p104; replace q104 := eq_true q104)))
          go_ret
          exact ⟨by first | rfl | (simp; done) | (simp only [← hji8] <;> (first | rfl | simp)) | (simp [*]; done), pY80⟩
        ·rw [if_neg c10] at H
         exact absurd H (by simp)
       ·rw [if_neg c9] at H
        exact absurd H (by simp)
      ·rw [if_neg c7] at H
       have c7b0 : decide (0 < x5_1) = false := decide_eq_false c7
       clear c7
       have H' := am H
       clear H
       have p101 : 0 ≤ (x5_1 : Int) := of_decide_eq_true (pY82)
       have q101 : x5_1 < (l0.length : Int) := of_decide_eq_true (pY82)
       obtain ⟨ad101, e101, hx101_0⟩ := Kd.at_string HR0.1 x5_1 p101 q101
       cases e101
       replace p101 := eq_true p101
       replace q101 := eq_true q101
       go_wp2_with (first | (go_at_call 80; refine cM (spec_l1Has.calls k1 _ _ l1 (rdOf ByteArray.empty l0 x5_1) true _ (pC HR1.1) HC1.1 A5.out) ?_; rintro w' ⟨nd, rfl⟩; (try first | exact ⟨rfl, _, World.drewN_drewN _ _ _⟩ | exact ⟨rfl, _, Eq.trans (World.drewN_drewN _ _ _) (congrArg (World.drewN _) (Nat.add_assoc _ _ _))⟩)))
       repeat (go_quiet (first | (go_at_call 80; (with_reducible refine (spec_l1Has.calls k1 _ _ l1 (rdOf ByteArray.empty l0 x5_1) true _ ?side1 ?side2 A5.out).mono ?_); (case side1 => exact pC HR1.1); (case side2 => exact HC1.1); rintro e w' ⟨rfl, ⟨nd, rfl⟩⟩; (try first | exact ⟨rfl, _, World.drewN_drewN _ _ _⟩ | exact ⟨rfl, _, Eq.trans (World.drewN_drewN _ _ _) (congrArg (World.drewN _) (Nat.add_assoc _ _ _))⟩))); try go_wp2_with (first | (go_at_call 80; (with_reducible refine (spec_l1Has.calls k1 _ _ l1 (rdOf ByteArray.empty l0 x5_1) true _ ?side1 ?side2 A5.out).mono ?_); (case side1 => exact pC HR1.1); (case side2 => exact HC1.1); rintro e w' ⟨rfl, ⟨nd, rfl⟩⟩; (try first | exact ⟨rfl, _, World.drewN_drewN _ _ _⟩ | exact ⟨rfl, _, Eq.trans (World.drewN_drewN _ _ _) (congrArg (World.drewN _) (Nat.add_assoc _ _ _))⟩))))
       go_roundg k1
       case measure => have := HK1.out; omega
       case rel => exact ⟨(wrap64 (x5_1 + 1)), (pY83), H', ⟨by have := HK1.out; omega⟩, pY80⟩
     ·replace c6 := Bool.eq_false_iff.mpr c6
      subst c6
      replace H := iF H
      obtain rfl := Option.some.inj H
      have p101 : 0 ≤ (x5_1 : Int) := of_decide_eq_true (pY82)
      have q101 : x5_1 < (l0.length : Int) := of_decide_eq_true (pY82)
      obtain ⟨ad101, e101, hx101_0⟩ := Kd.at_string HR0.1 x5_1 p101 q101
      cases e101
      replace p101 := eq_true p101
      replace q101 := eq_true q101
      go_wp2_with (first | (go_at_call 80; refine cM (spec_l1Has.calls k1 _ _ l1 (rdOf ByteArray.empty l0 x5_1) false _ (pC HR1.1) HC1.1 A5.out) ?_; rintro w' ⟨nd, rfl⟩; (try first | exact ⟨rfl, _, World.drewN_drewN _ _ _⟩ | exact ⟨rfl, _, Eq.trans (World.drewN_drewN _ _ _) (congrArg (World.drewN _) (Nat.add_assoc _ _ _))⟩)))
      repeat (go_quiet (first | (go_at_call 80; (with_reducible refine (spec_l1Has.calls k1 _ _ l1 (rdOf ByteArray.empty l0 x5_1) false _ ?side1 ?side2 A5.out).mono ?_); (case side1 => exact pC HR1.1); (case side2 => exact HC1.1); rintro e w' ⟨rfl, ⟨nd, rfl⟩⟩; (try first | exact ⟨rfl, _, World.drewN_drewN _ _ _⟩ | exact ⟨rfl, _, Eq.trans (World.drewN_drewN _ _ _) (congrArg (World.drewN _) (Nat.add_assoc _ _ _))⟩))); try go_wp2_with (first | (go_at_call 80; (with_reducible refine (spec_l1Has.calls k1 _ _ l1 (rdOf ByteArray.empty l0 x5_1) false _ ?side1 ?side2 A5.out).mono ?_); (case side1 => exact pC HR1.1); (case side2 => exact HC1.1); rintro e w' ⟨rfl, ⟨nd, rfl⟩⟩; (try first | exact ⟨rfl, _, World.drewN_drewN _ _ _⟩ | exact ⟨rfl, _, Eq.trans (World.drewN_drewN _ _ _) (congrArg (World.drewN _) (Nat.add_assoc _ _ _))⟩))))
      go_ret
      exact ⟨by first | rfl | (simp; done) | (simp [*]; done), pY80⟩
    ·rw [if_neg c4] at H
     exact absurd H (by simp)
   ·rw [if_neg c3] at H
    have c3b0 : decide (x5_1 < (l0.length : Int)) = false := decide_eq_false c3
    clear c3
    obtain rfl := Option.some.inj H
    go_wp2
    repeat (go_quiet (fail); try go_wp2)
    go_ret
    exact ⟨by first | rfl | (simp; done) | (simp [*]; done), pY80⟩
end Go.Proofs.Ytaofjgnhapnndaa.Q
namespace Go.Proofs.Ytaofjgnhapnndaa.Q
open Go.RowKit Go.Proofs.YtaofjgnhapnndaaW.PrintWords Go.Proofs.YtaofjgnhapnndaaW.PrintLast Go.Proofs.YtaofjgnhapnndaaW.PrintMore
set_option linter.unusedVariables false
set_option linter.unusedSimpArgs false
mutual
def spec_ShareBookOk.j0 : Nat → Bool → List ByteArray → List (S56) → Option (Bool)
 | 0, _, _, _ => none
 | k + 1, x15, x102000, x102001 => if x15 = true then (some false) else (spec_ShareBookOk.l0 k 0 x102000 x102001)
def spec_ShareBookOk.l0 : Nat → Int → List ByteArray → List (S56) → Option (Bool)
 | 0, _, _, _ => none
 | k + 1, x3, x102000, x102001 => if x3 < (x102001.length : Int) then (if 0 ≤ x3 then ((spec_l1NameOk.f k ((rd_T56 x102001 x3).f0)).bind fun t105 => (if t105 = true then (if x3 > 0 then (if 0 ≤ (wrap64 (x3 - 1)) then (if (wrap64 (x3 - 1)) < (x102001.length : Int) then (if ((Op.bytesLess (((rd_T56 x102001 (wrap64 (x3 - 1))).f0).toList) (((rd_T56 x102001 x3).f0).toList)) = true) then ((spec_l1NamesOk.f k ((rd_T56 x102001 x3).f2) x102000).bind fun t107 => (if t107 = true then ((spec_l1NamesOk.f k ((rd_T56 x102001 x3).f1) ((rd_T56 x102001 x3).f2)).bind fun t108 => (spec_ShareBookOk.j2 k x3 (!t108) x102000 x102001 ((rd_T56 x102001 x3).f0) ((rd_T56 x102001 x3).f1) ((rd_T56 x102001 x3).f2))) else (spec_ShareBookOk.j2 k x3 true x102000 x102001 ((rd_T56 x102001 x3).f0) ((rd_T56 x102001 x3).f1) ((rd_T56 x102001 x3).f2)))) else (spec_ShareBookOk.j2 k x3 true x102000 x102001 ((rd_T56 x102001 x3).f0) ((rd_T56 x102001 x3).f1) ((rd_T56 x102001 x3).f2))) else (none)) else (none)) else ((spec_l1NamesOk.f k ((rd_T56 x102001 x3).f2) x102000).bind fun t109 => (if t109 = true then ((spec_l1NamesOk.f k ((rd_T56 x102001 x3).f1) ((rd_T56 x102001 x3).f2)).bind fun t110 => (spec_ShareBookOk.j2 k x3 (!t110) x102000 x102001 ((rd_T56 x102001 x3).f0) ((rd_T56 x102001 x3).f1) ((rd_T56 x102001 x3).f2))) else (spec_ShareBookOk.j2 k x3 true x102000 x102001 ((rd_T56 x102001 x3).f0) ((rd_T56 x102001 x3).f1) ((rd_T56 x102001 x3).f2))))) else (spec_ShareBookOk.j2 k x3 true x102000 x102001 ((rd_T56 x102001 x3).f0) ((rd_T56 x102001 x3).f1) ((rd_T56 x102001 x3).f2)))) else (none)) else (some true)
def spec_ShareBookOk.j2 : Nat → Int → Bool → List ByteArray → List (S56) → ByteArray → List ByteArray → List ByteArray → Option (Bool)
 | 0, _, _, _, _, _, _, _ => none
 | k + 1, x3, x63, x102000, x102001, x105000, x105001, x105002 => if x63 = true then (some false) else (spec_ShareBookOk.l1 k x3 0 x102000 x102001 x105000 x105001 x105002)
def spec_ShareBookOk.l1 : Nat → Int → Int → List ByteArray → List (S56) → ByteArray → List ByteArray → List ByteArray → Option (Bool)
 | 0, _, _, _, _, _, _, _ => none
 | k + 1, x3, x5, x102000, x102001, x105000, x105001, x105002 => if x5 < x3 then (if 0 ≤ x5 then (if x5 < (x102001.length : Int) then ((spec_l1Share.f k x105001 ((rd_T56 x102001 x5).f1)).bind fun t112 => (if t112 = true then (some false) else (spec_ShareBookOk.l1 k x3 (wrap64 (x5 + 1)) x102000 x102001 x105000 x105001 x105002))) else (none)) else (none)) else (spec_ShareBookOk.l0 k (wrap64 (x3 + 1)) x102000 x102001)
end
def spec_ShareBookOk.f (k : Nat) (l0_0 : List ByteArray) (l0_1 : List (S56)) : Option (Bool) := (spec_l1ThingsOk.f k l0_0).bind fun t102 => (if t102 = true then (spec_ShareBookOk.j0 k (decide ((l0_1.length : Int) > 5)) l0_0 l0_1) else (spec_ShareBookOk.j0 k true l0_0 l0_1))
def spec_ShareBookOk.T7 : Bool × List (List Nat × List Nat) := (true, [([], []), ([0], [0]), ([1], [1]), ([2], [2]), ([3, 2], [3]), ([4], [4]), ([5, 4], [4, 5]), ([6, 4, 4], [4, 6]), ([7], [7]), ([8, 7], [7, 8]), ([7], [7]), ([10, 7], [7, 10]), ([9, 11, 7], [7, 9, 11]), ([12, 7], [7, 12]), ([13, 7], [7, 13]), ([7], [7]), ([15, 7], [7, 15]), ([14, 16, 7], [7, 14, 16]), ([7, 17, 4], [4, 7, 17]), ([4, 18], [4, 18]), ([19, 7], [19]), ([20], [20]), ([21, 20], [20, 21]), ([20], [20]), ([23, 20], [20, 23]), ([22, 24, 20, 20], [20, 22, 24]), ([25, 20], [20, 25]), ([20, 26], [20, 26]), ([27, 25], [27]), ([28], [28]), ([29, 28], [28, 29]), ([28], [28]), ([31, 28], [28, 31]), ([30, 32, 28, 28], [28, 30, 32]), ([33, 28], [28, 33]), ([28, 34], [28, 34])])
def spec_ShareBookOk.B7 : List Nat := [0, 1, 3, 7, 15, 31, 63, 127, 255, 511, 255, 1279, 4095, 8191, 16383, 255, 33023, 131071, 262143, 524287, 1048575, 2097151, 4194303, 2097151, 10485759, 33554431, 67108863, 134217727, 268435455, 536870911, 1073741823, 536870911, 2684354559, 8589934591, 17179869183, 34359738367]
theorem spec_ShareBookOk.tab7 : rtab .any (opsOf Try.f22 7) = spec_ShareBookOk.T7 := by kernel_rfl
theorem spec_ShareBookOk.bits7 : waitsOk spec_ShareBookOk.T7.2 spec_ShareBookOk.B7 = true := by kernel_rfl
def spec_ShareBookOk.T12 : Bool × List (List Nat × List Nat) := (true, [([], []), ([0], [0]), ([], []), ([2], [2]), ([], []), ([3, 4], [3, 4]), ([5], [5]), ([6], [6]), ([1, 7], [1, 7])])
def spec_ShareBookOk.B12 : List Nat := [0, 1, 0, 4, 0, 28, 60, 124, 255]
theorem spec_ShareBookOk.tab12 : rtab .any (opsOf Try.f22 12) = spec_ShareBookOk.T12 := by kernel_rfl
theorem spec_ShareBookOk.bits12 : waitsOk spec_ShareBookOk.T12.2 spec_ShareBookOk.B12 = true := by kernel_rfl
set_option maxHeartbeats 8000000 in
set_option maxRecDepth 100000 in
theorem spec_ShareBookOk.calls (k : Nat) (A0_0 : Option Addr) (c0_0 : Nat) (l0_0 : List ByteArray) (A0_1 : Option Addr) (c0_1 : Nat) (l0_1 : List (S56)) (r : Bool) (w : World) (hr0_0 : Kd.C Kd.string w A0_0 l0_0.length l0_0) (hc0_0 : l0_0.length ≤ c0_0) (hr0_1 : Kd.C k56 w A0_1 l0_1.length l0_1) (hc0_1 : l0_1.length ≤ c0_1) (h : spec_ShareBookOk.f k l0_0 l0_1 = some r) :
  Calls Try.prog 22 #[.agg #[.slice A0_0 l0_0.length c0_0, .slice A0_1 l0_1.length c0_1]] w fun e w' => e = .returned (.bool r) ∧ Below w.heap.size w w' := by
 have hu31 := Try.underlying31
 have hu56 := Try.underlying56
 have HR0_0 := am hr0_0
 have HC0_0 := am hc0_0
 clear hr0_0 hc0_0
 have HR0_1 := am hr0_1
 have HC0_1 := am hc0_1
 clear hr0_1 hc0_1
 have HB := am (Below.refl w.heap.size w)
 have H : ((spec_l1ThingsOk.f k l0_0).bind fun t102 => (if t102 = true then (spec_ShareBookOk.j0 k (decide ((l0_1.length : Int) > 5)) l0_0 l0_1) else (spec_ShareBookOk.j0 k true l0_0 l0_1))) = some r := h
 clear h
 have HC2 := am H
 clear H
 go_enter Try.func22, Try.ntmps22
 go_upto_region 1 with (first | ((try (refine gate_guard (by rfl) ?_; dsimp only)); refine bX 1 #[.slice A0_0 l0_0.length c0_0, .slice A0_1 l0_1.length c0_1] 31 ?_; intro gb101 hg w3 hbox hb; have BK101 := am (hbox); have GW101 := am (pY52 : w.heap.size ≤ gb101); have GE101 := am (pY52 : w.heap.size ≤ gb101); replace HB := bS pY55 hb; clear hb hbox hg))
 (try simp only [Act.put, List.setIfInBounds_toArray, List.set_cons_zero, List.set_cons_succ])
 go_cut [15] (fun v15 wc => ∃ (kq : Nat) (x15_1 : Bool), v15 = .bool x15_1 ∧ Aside0 (spec_ShareBookOk.j0 kq x15_1 l0_0 l0_1 = some r) ∧ Aside0 (kq ≤ k) ∧ Aside0 (wc.heap[gb101]? = some (.cells #[(.slice A0_0 l0_0.length c0_0), (.slice A0_1 l0_1.length c0_1)] 31 (0, 0))) ∧ Aside0 (Below w.heap.size w wc))
 case first =>
  have H := HC2.1
  clear HC2
  obtain ⟨t102, A4, H⟩ := bd H
  by_cases c5 : t102 = true
  ·subst c5
   replace H := iT H
   have H' := am H
   clear H
   obtain ⟨hcz6_0, hcz6_1, hfz6_0, hfz6_1⟩ := cz2 BK101
   go_wp2_with (first | ((with_reducible refine gate_callee (f := 69) rfl ?_); refine goesL_ (some 8) rfl rfl Try.func69 (by kernel_rfl) rfl #[.slice A0_0 l0_0.length c0_0] rfl (pY54) ?_; (with_reducible refine (spec_l1ThingsOk.calls k _ _ l0_0 true _ ?side1 ?side2 A4.out).mono ?_); (case side1 => exact pC (Kd.C_below HR0_0.1 HB.1)); (case side2 => exact HC0_0.1); rintro e w' ⟨rfl, ⟨nd, rfl⟩⟩; refine ⟨_, rfl, ?_⟩))
   go_meet
   case rel => exact ⟨_, (decide ((l0_1.length : Int) > 5)), (pY83), H', ⟨by first | omega | exact Nat.le_refl _⟩, ⟨rB BK101.1⟩, ⟨pY53⟩⟩
  ·replace c5 := Bool.eq_false_iff.mpr c5
   subst c5
   replace H := iF H
   have H' := am H
   clear H
   obtain ⟨hcz7_0, hcz7_1, hfz7_0, hfz7_1⟩ := cz2 BK101
   go_wp2_with (first | ((with_reducible refine gate_callee (f := 69) rfl ?_); refine goesL_ (some 8) rfl rfl Try.func69 (by kernel_rfl) rfl #[.slice A0_0 l0_0.length c0_0] rfl (pY54) ?_; (with_reducible refine (spec_l1ThingsOk.calls k _ _ l0_0 false _ ?side1 ?side2 A4.out).mono ?_); (case side1 => exact pC (Kd.C_below HR0_0.1 HB.1)); (case side2 => exact HC0_0.1); rintro e w' ⟨rfl, ⟨nd, rfl⟩⟩; refine ⟨_, rfl, ?_⟩))
   go_meet
   case rel => exact ⟨_, (true), (pY83), H', ⟨by first | omega | exact Nat.le_refl _⟩, ⟨rB BK101.1⟩, ⟨pY53⟩⟩
 case rest =>
  clear HC2
  obtain ⟨kq, x15_1, rfl, HA, HJ1, BK101, HB⟩ := hcut
  cases kq with
  | zero => exact absurd HA.out (by simp [spec_ShareBookOk.j0])
  | succ kj1 =>
   have H := HA.out
   clear HA
   simp only [spec_ShareBookOk.j0] at H
   by_cases c8 : x15_1 = true
   ·subst c8
    replace H := iT H
    obtain rfl := Option.some.inj H
    go_wp2
    go_ret
    exact ⟨by first | rfl | (simp [errW_none, errW_some] <;> rfl) | (simp [*, errW_none, errW_some] <;> rfl), pY53⟩
   ·replace c8 := Bool.eq_false_iff.mpr c8
    subst c8
    replace H := iF H
    have H' := am H
    clear H
    go_wp2
    go_loopg [3] kj1 (fun kq v3 w' => ∃ (x3_2 : Int), v3 = .int .i64 x3_2 ∧ Aside0 (spec_ShareBookOk.l0 kq x3_2 l0_0 l0_1 = some r) ∧ Aside0 (kq ≤ kj1) ∧ Aside0 (w'.heap[gb101]? = some (.cells #[(.slice A0_0 l0_0.length c0_0), (.slice A0_1 l0_1.length c0_1)] 31 (0, 0))) ∧ Aside0 (Below w.heap.size w w'))
    case atStart => exact ⟨(0), (pY83), H', ⟨Nat.le_refl _⟩, ⟨rB BK101.1⟩, ⟨pY53⟩⟩
    case round =>
     clear H'
     try clear c8
     obtain ⟨x3_2, rfl, HA, HK2, BK101, HB⟩ := hrel
     cases gk with
     | zero => exact absurd HA.out (by simp [spec_ShareBookOk.l0])
     | succ k2 =>
      have H := HA.out
      clear HA
      simp only [spec_ShareBookOk.l0] at H
      by_cases c9 : x3_2 < (l0_1.length : Int)
      ·rw [if_pos c9] at H
       have c9b0 : decide (x3_2 < (l0_1.length : Int)) = true := decide_eq_true c9
       clear c9
       by_cases c10 : 0 ≤ x3_2
       ·rw [if_pos c10] at H
        have c10b0 : decide (0 ≤ x3_2) = true := decide_eq_true c10
        clear c10
        have HC11 := am H
        clear H
        obtain ⟨hcz12_0, hcz12_1, hfz12_0, hfz12_1⟩ := cz2 BK101
        have p103 : 0 ≤ (x3_2 : Int) := of_decide_eq_true (pY82)
        have q103 : x3_2 < (l0_1.length : Int) := of_decide_eq_true (pY82)
        obtain ⟨ad103, A103_1, c103_1, A103_2, c103_2, e103, hx103_0, hx103_1, hx103_2, hl103_1, hi103_1, hl103_2, hi103_2⟩ := at_T56 HR0_1.1 x3_2 p103 q103
        cases e103
        replace hx103_0 := hX HB hx103_0
        replace hx103_1 := hX HB hx103_1
        replace hx103_2 := hX HB hx103_2
        have HR103_1 := am hi103_1
        have HC103_1 := am hl103_1
        clear hi103_1 hl103_1
        have HR103_2 := am hi103_2
        have HC103_2 := am hl103_2
        clear hi103_2 hl103_2
        replace p103 := eq_true p103
        replace q103 := eq_true q103
        go_upto_region 7 with (first | ((try (refine gate_guard (by rfl) ?_; dsimp only)); refine bX 4 #[.string (⟨#[]⟩ : ByteArray), .slice none 0 0, .slice none 0 0] 56 ?_; intro gb104 hg w13 hbox hb; have BK104 := am (hbox); have GW104 := am (pY45 : w.heap.size ≤ gb104); have GE104 := am (pY45 : w.heap.size ≤ gb104); replace HB := bS pY53 hb; have NB101_104 := nL pY58 hg; have NB104_101 := nG pY58 hg; replace BK101 := bB pY58 hb; clear hb hbox hg; have hnb14 := NB104_101.1; have hnc14 := NB101_104.1; obtain ⟨hcz15_0, hcz15_1, hcz15_2, hfz15_0, hfz15_1, hfz15_2⟩ := cz3 BK104))
        (try simp only [Act.put, List.setIfInBounds_toArray, List.set_cons_zero, List.set_cons_succ])
        go_cut [63] (fun v63 wc => ∃ (kq : Nat) (x63_10 : Bool), v63 = .bool x63_10 ∧ Aside0 (spec_ShareBookOk.j2 kq x3_2 x63_10 l0_0 l0_1 ((rd_T56 l0_1 x3_2).f0) ((rd_T56 l0_1 x3_2).f1) ((rd_T56 l0_1 x3_2).f2) = some r) ∧ Aside0 (kq ≤ k2) ∧ Aside0 (wc.heap[gb101]? = some (.cells #[(.slice A0_0 l0_0.length c0_0), (.slice (some ad103) l0_1.length c0_1)] 31 (0, 0))) ∧ Aside0 (wc.heap[gb104]? = some (.cells #[.string ((rd_T56 l0_1 x3_2).f0), (.slice A103_1 ((rd_T56 l0_1 x3_2).f1).length c103_1), (.slice A103_2 ((rd_T56 l0_1 x3_2).f2).length c103_2)] 56 (0, 0))) ∧ Aside0 (Below w.heap.size w wc))
        case first =>
         have H := HC11.1
         clear HC11
         obtain ⟨t105, A16, H⟩ := bd H
         by_cases c17 : t105 = true
         ·subst c17
          replace H := iT H
          by_cases c18 : x3_2 > 0
          ·rw [if_pos c18] at H
           have c18b0 : decide (0 < x3_2) = true := decide_eq_true c18
           clear c18
           (first | rw [c18b0] | (simp only [i64_w, i32_w]; rw [c18b0]) | skip)
           obtain ⟨ji19, hji19⟩ : ∃ j_ : Int, (wrap64 (x3_2 - 1)) = j_ := ⟨_, rfl⟩
           replace H : (if 0 ≤ (ji19) then (if (ji19) < (l0_1.length : Int) then (if ((Op.bytesLess (((rd_T56 l0_1 (ji19)).f0).toList) (((rd_T56 l0_1 x3_2).f0).toList)) = true) then ((spec_l1NamesOk.f k2 ((rd_T56 l0_1 x3_2).f2) l0_0).bind fun t107 => (if t107 = true then ((spec_l1NamesOk.f k2 ((rd_T56 l0_1 x3_2).f1) ((rd_T56 l0_1 x3_2).f2)).bind fun t108 => (spec_ShareBookOk.j2 k2 x3_2 (!t108) l0_0 l0_1 ((rd_T56 l0_1 x3_2).f0) ((rd_T56 l0_1 x3_2).f1) ((rd_T56 l0_1 x3_2).f2))) else (spec_ShareBookOk.j2 k2 x3_2 true l0_0 l0_1 ((rd_T56 l0_1 x3_2).f0) ((rd_T56 l0_1 x3_2).f1) ((rd_T56 l0_1 x3_2).f2)))) else (spec_ShareBookOk.j2 k2 x3_2 true l0_0 l0_1 ((rd_T56 l0_1 x3_2).f0) ((rd_T56 l0_1 x3_2).f1) ((rd_T56 l0_1 x3_2).f2))) else (none)) else (none)) = some r := by first | (rw [hji19] at H; exact H) | (simp only [hji19] at H ⊢; exact H)
           (try rw [hji19] at A16)
           have hji19w : (IntKind.i64.wrap (x3_2 - 1)) = ji19 := (i64_w _).trans hji19
           by_cases c20 : 0 ≤ (ji19)
           ·rw [if_pos c20] at H
            have c20b0 : decide (0 ≤ (ji19)) = true := decide_eq_true c20
            clear c20
            by_cases c21 : (ji19) < (l0_1.length : Int)
            ·rw [if_pos c21] at H
             have c21b0 : decide ((ji19) < (l0_1.length : Int)) = true := decide_eq_true c21
             clear c21
             by_cases c22 : ((Op.bytesLess (((rd_T56 l0_1 (ji19)).f0).toList) (((rd_T56 l0_1 x3_2).f0).toList)) = true)
             ·rw [if_pos c22] at H
              have c22b0 : (Op.bytesLess (((rd_T56 l0_1 (ji19)).f0).toList) (((rd_T56 l0_1 x3_2).f0).toList)) = true := c22
              clear c22
              obtain ⟨t107, A23, H⟩ := bd H
              by_cases c24 : t107 = true
              ·subst c24
               replace H := iT H
               obtain ⟨t108, A25, H⟩ := bd H
               have H' := am H
               clear H
               try go_wp2
               obtain ⟨w26, eW_⟩ : ∃ w_, w_ = (((w13.setCell ⟨gb104, 0, none⟩ (.string ((rd_T56 l0_1 x3_2).f0))).setCell ⟨gb104, 1, none⟩ (.slice A103_1 ((rd_T56 l0_1 x3_2).f1).length c103_1)).setCell ⟨gb104, 2, none⟩ (.slice A103_2 ((rd_T56 l0_1 x3_2).f2).length c103_2)) := ⟨_, rfl⟩
               rw [← eW_]
               replace BK101 := uF3 eW_ BK101 NB101_104
               replace BK104 := uP3 eW_ BK104
               replace HB := uC3 eW_ HB GE104
               clear eW_
               replace BK101 := am (blk_drew BK101.1)
               replace BK104 := am (blk_drew BK104.1)
               replace HB := am (below_drew1 HB.1)
               have p106 : 0 ≤ ((ji19) : Int) := of_decide_eq_true (pY82)
               have q106 : (ji19) < (l0_1.length : Int) := of_decide_eq_true (pY82)
               obtain ⟨ad106, A106_1, c106_1, A106_2, c106_2, e106, hx106_0, hx106_1, hx106_2, hl106_1, hi106_1, hl106_2, hi106_2⟩ := at_T56 HR0_1.1 (ji19) p106 q106
               have hw106_2 := hx106_2
               have hw106_1 := hx106_1
               have hw106_0 := hx106_0
               obtain rfl : ad103 = ad106 := (by injection e106)
               replace hx106_0 := hX HB hx106_0
               replace hx106_1 := hX HB hx106_1
               replace hx106_2 := hX HB hx106_2
               have HR106_1 := am hi106_1
               have HC106_1 := am hl106_1
               clear hi106_1 hl106_1
               have HR106_2 := am hi106_2
               have HC106_2 := am hl106_2
               clear hi106_2 hl106_2
               replace p106 := eq_true p106
               replace q106 := eq_true q106
               refine sT [] 36 (uB3 BK104 (uB2 BK101 (uBx HB hw106_0 (uBx HB hw106_1 (uAx HB hw106_2))))) (fun hHeld => ?_); refine with_tabW spec_ShareBookOk.tab7 spec_ShareBookOk.bits7 (fun HT_ HW_ => ?_)
               generalize w26.drew = w27 at BK101 BK104 HB HR106_1 HR106_2 hx106_0 hx106_1 hx106_2 hHeld ⊢
               refine pU 0 (some 28) ?_
               refine tK8 1 (some 29) ?_
               refine oN 2 (some 30) fun K hK => ?_
               refine goes_ Try.func70 (by kernel_rfl) rfl #[.string ((rd_T56 l0_1 x3_2).f0)] (by rfl) rfl rfl (pY54) ?_
               with_reducible refine (spec_l1NameOk.calls k2 ((rd_T56 l0_1 x3_2).f0) true _ A16.out).mono ?_
               rintro e w' ⟨rfl, ⟨nd, rfl⟩⟩
               refine ⟨_, rfl, ?_⟩
               refine hK.out _ _ (uB3 BK104 (uB2 BK101 (uBx HB hw106_0 (uBx HB hw106_1 (uAx HB hw106_2))))).1 (fun hHeld => ?_)
               clear hK K
               refine nM ?_
               refine pU 3 (some 31) ?_
               refine pU 4 (some 32) ?_
               refine pU 5 (some 33) ?_
               refine pU 6 (some 34) ?_
               refine pU 7 (some 35) ?_
               refine pU 8 (some 36) ?_
               refine pU 10 (some 38) ?_
               refine pU 11 (some 39) ?_
               refine pU 15 (some 43) ?_
               refine tK8 9 (some 37) ?_
               refine pU 12 (some 40) ?_
               refine pU 13 (some 41) ?_
               refine tK8 14 (some 42) ?_
               refine tK8 16 (some 44) ?_
               refine pU 17 (some 45) ?_
               refine pU 18 (some 46) ?_
               refine pU 19 (some 47) ?_
               refine pU 20 (some 48) ?_
               refine pU 21 (some 49) ?_
               refine pU 23 (some 51) ?_
               refine tK8 22 (some 50) ?_
               refine tK8 24 (some 52) ?_
               refine oN 25 (some 53) fun K hK => ?_
               refine goes_ Try.func71 (by kernel_rfl) rfl #[.slice A103_2 ((rd_T56 l0_1 x3_2).f2).length c103_2, .slice A0_0 l0_0.length c0_0] (by rfl) rfl rfl (pY54) ?_
               with_reducible refine (spec_l1NamesOk.calls k2 _ _ ((rd_T56 l0_1 x3_2).f2) _ _ l0_0 true _ ?side1 ?side2 ?side3 ?side4 A23.out).mono ?_
               (case side1 => exact pC (Kd.C_below HR103_2.1 (pY47)))
               (case side2 => exact HC103_2.1)
               (case side3 => exact pC (Kd.C_below HR0_0.1 (pY47)))
               (case side4 => exact HC0_0.1)
               rintro e w' ⟨rfl, ⟨nd, rfl⟩⟩
               refine ⟨_, rfl, ?_⟩
               refine hK.out _ _ (uB3 BK104 (uB2 BK101 (uBx HB hw106_0 (uBx HB hw106_1 (uAx HB hw106_2))))).1 (fun hHeld => ?_)
               clear hK K
               refine nM ?_
               refine pU 26 (some 54) ?_
               refine pU 27 (some 55) ?_
               refine pU 28 (some 56) ?_
               refine pU 29 (some 57) ?_
               refine pU 31 (some 59) ?_
               refine tK8 30 (some 58) ?_
               refine tK8 32 (some 60) ?_
               refine oN 33 (some 61) fun K hK => ?_
               refine goes_ Try.func71 (by kernel_rfl) rfl #[.slice A103_1 ((rd_T56 l0_1 x3_2).f1).length c103_1, .slice A103_2 ((rd_T56 l0_1 x3_2).f2).length c103_2] (by rfl) rfl rfl (pY54) ?_
               with_reducible refine (spec_l1NamesOk.calls k2 _ _ ((rd_T56 l0_1 x3_2).f1) _ _ ((rd_T56 l0_1 x3_2).f2) t108 _ ?side1 ?side2 ?side3 ?side4 A25.out).mono ?_
               (case side1 => exact pC (Kd.C_below HR103_1.1 (pY47)))
               (case side2 => exact HC103_1.1)
               (case side3 => exact pC (Kd.C_below HR103_2.1 (pY47)))
               (case side4 => exact HC103_2.1)
               rintro e w' ⟨rfl, ⟨nd, rfl⟩⟩
               refine ⟨_, rfl, ?_⟩
               refine hK.out _ _ (uB3 BK104 (uB2 BK101 (uBx HB hw106_0 (uBx HB hw106_1 (uAx HB hw106_2))))).1 (fun hHeld => ?_)
               clear hK K
               refine nM ?_
               refine pU 34 (some 62) ?_
               refine pU 35 (some 63) ?_
               refine done_ (done_of HT_.out (by kernel_rfl)) ?_
               try go_wp2
               go_meet
               case rel => exact ⟨_, (!t108), (pY83), H', ⟨by have := HJ1.out; have := HK2.out; first | omega | exact Nat.le_refl _⟩, ⟨rB BK101.1⟩, ⟨rB BK104.1⟩, ⟨pY47⟩⟩
              ·replace c24 := Bool.eq_false_iff.mpr c24
               subst c24
               replace H := iF H
               have H' := am H
               clear H
               try go_wp2
               obtain ⟨w28, eW_⟩ : ∃ w_, w_ = (((w13.setCell ⟨gb104, 0, none⟩ (.string ((rd_T56 l0_1 x3_2).f0))).setCell ⟨gb104, 1, none⟩ (.slice A103_1 ((rd_T56 l0_1 x3_2).f1).length c103_1)).setCell ⟨gb104, 2, none⟩ (.slice A103_2 ((rd_T56 l0_1 x3_2).f2).length c103_2)) := ⟨_, rfl⟩
               rw [← eW_]
               replace BK101 := uF3 eW_ BK101 NB101_104
               replace BK104 := uP3 eW_ BK104
               replace HB := uC3 eW_ HB GE104
               clear eW_
               replace BK101 := am (blk_drew BK101.1)
               replace BK104 := am (blk_drew BK104.1)
               replace HB := am (below_drew1 HB.1)
               have p106 : 0 ≤ ((ji19) : Int) := of_decide_eq_true (pY82)
               have q106 : (ji19) < (l0_1.length : Int) := of_decide_eq_true (pY82)
               obtain ⟨ad106, A106_1, c106_1, A106_2, c106_2, e106, hx106_0, hx106_1, hx106_2, hl106_1, hi106_1, hl106_2, hi106_2⟩ := at_T56 HR0_1.1 (ji19) p106 q106
               have hw106_2 := hx106_2
               have hw106_1 := hx106_1
               have hw106_0 := hx106_0
               obtain rfl : ad103 = ad106 := (by injection e106)
               replace hx106_0 := hX HB hx106_0
               replace hx106_1 := hX HB hx106_1
               replace hx106_2 := hX HB hx106_2
               have HR106_1 := am hi106_1
               have HC106_1 := am hl106_1
               clear hi106_1 hl106_1
               have HR106_2 := am hi106_2
               have HC106_2 := am hl106_2
               clear hi106_2 hl106_2
               replace p106 := eq_true p106
               replace q106 := eq_true q106
               refine sT [] 36 (uB3 BK104 (uB2 BK101 (uBx HB hw106_0 (uBx HB hw106_1 (uAx HB hw106_2))))) (fun hHeld => ?_); refine with_tabW spec_ShareBookOk.tab7 spec_ShareBookOk.bits7 (fun HT_ HW_ => ?_)
               generalize w28.drew = w29 at BK101 BK104 HB HR106_1 HR106_2 hx106_0 hx106_1 hx106_2 hHeld ⊢
               refine pU 0 (some 28) ?_
               refine tK8 1 (some 29) ?_
               refine oN 2 (some 30) fun K hK => ?_
               refine goes_ Try.func70 (by kernel_rfl) rfl #[.string ((rd_T56 l0_1 x3_2).f0)] (by rfl) rfl rfl (pY54) ?_
               with_reducible refine (spec_l1NameOk.calls k2 ((rd_T56 l0_1 x3_2).f0) true _ A16.out).mono ?_
               rintro e w' ⟨rfl, ⟨nd, rfl⟩⟩
               refine ⟨_, rfl, ?_⟩
               refine hK.out _ _ (uB3 BK104 (uB2 BK101 (uBx HB hw106_0 (uBx HB hw106_1 (uAx HB hw106_2))))).1 (fun hHeld => ?_)
               clear hK K
               refine nM ?_
               refine pU 3 (some 31) ?_
               refine pU 4 (some 32) ?_
               refine pU 5 (some 33) ?_
               refine pU 6 (some 34) ?_
               refine pU 7 (some 35) ?_
               refine pU 8 (some 36) ?_
               refine pU 10 (some 38) ?_
               refine pU 11 (some 39) ?_
               refine pU 15 (some 43) ?_
               refine tK8 9 (some 37) ?_
               refine pU 12 (some 40) ?_
               refine pU 13 (some 41) ?_
               refine tK8 14 (some 42) ?_
               refine tK8 16 (some 44) ?_
               refine pU 17 (some 45) ?_
               refine pU 18 (some 46) ?_
               refine pU 19 (some 47) ?_
               refine pU 20 (some 48) ?_
               refine pU 21 (some 49) ?_
               refine pU 23 (some 51) ?_
               refine tK8 22 (some 50) ?_
               refine tK8 24 (some 52) ?_
               refine oN 25 (some 53) fun K hK => ?_
               refine goes_ Try.func71 (by kernel_rfl) rfl #[.slice A103_2 ((rd_T56 l0_1 x3_2).f2).length c103_2, .slice A0_0 l0_0.length c0_0] (by rfl) rfl rfl (pY54) ?_
               with_reducible refine (spec_l1NamesOk.calls k2 _ _ ((rd_T56 l0_1 x3_2).f2) _ _ l0_0 false _ ?side1 ?side2 ?side3 ?side4 A23.out).mono ?_
               (case side1 => exact pC (Kd.C_below HR103_2.1 (pY47)))
               (case side2 => exact HC103_2.1)
               (case side3 => exact pC (Kd.C_below HR0_0.1 (pY47)))
               (case side4 => exact HC0_0.1)
               rintro e w' ⟨rfl, ⟨nd, rfl⟩⟩
               refine ⟨_, rfl, ?_⟩
               refine hK.out _ _ (uB3 BK104 (uB2 BK101 (uBx HB hw106_0 (uBx HB hw106_1 (uAx HB hw106_2))))).1 (fun hHeld => ?_)
               clear hK K
               refine nM ?_
               refine pU 26 (some 54) ?_
               refine pU 27 (some 55) ?_
               refine pU 28 (some 56) ?_
               refine pV 29 (some 57) ?_
               refine pV 30 (some 58) ?_
               refine pV 31 (some 59) ?_
               refine pV 32 (some 60) ?_
               refine pV 33 (some 61) ?_
               refine pV 34 (some 62) ?_
               refine pU 35 (some 63) ?_
               refine done_ (done_of HT_.out (by kernel_rfl)) ?_
               try go_wp2
               go_meet
               case rel => exact ⟨_, (true), (pY83), H', ⟨by have := HJ1.out; have := HK2.out; first | omega | exact Nat.le_refl _⟩, ⟨rB BK101.1⟩, ⟨rB BK104.1⟩, ⟨pY47⟩⟩
             ·rw [if_neg c22] at H
              have c22b0 : (Op.bytesLess (((rd_T56 l0_1 (ji19)).f0).toList) (((rd_T56 l0_1 x3_2).f0).toList)) = false := by simpa using c22
              clear c22
              have H' := am H
              clear H
              try go_wp2
              obtain ⟨w30, eW_⟩ : ∃ w_, w_ = (((w13.setCell ⟨gb104, 0, none⟩ (.string ((rd_T56 l0_1 x3_2).f0))).setCell ⟨gb104, 1, none⟩ (.slice A103_1 ((rd_T56 l0_1 x3_2).f1).length c103_1)).setCell ⟨gb104, 2, none⟩ (.slice A103_2 ((rd_T56 l0_1 x3_2).f2).length c103_2)) := ⟨_, rfl⟩
              rw [← eW_]
              replace BK101 := uF3 eW_ BK101 NB101_104
              replace BK104 := uP3 eW_ BK104
              replace HB := uC3 eW_ HB GE104
              clear eW_
              replace BK101 := am (blk_drew BK101.1)
              replace BK104 := am (blk_drew BK104.1)
              replace HB := am (below_drew1 HB.1)
              have p106 : 0 ≤ ((ji19) : Int) := of_decide_eq_true (pY82)
              have q106 : (ji19) < (l0_1.length : Int) := of_decide_eq_true (pY82)
              obtain ⟨ad106, A106_1, c106_1, A106_2, c106_2, e106, hx106_0, hx106_1, hx106_2, hl106_1, hi106_1, hl106_2, hi106_2⟩ := at_T56 HR0_1.1 (ji19) p106 q106
              have hw106_2 := hx106_2
              have hw106_1 := hx106_1
              have hw106_0 := hx106_0
              obtain rfl : ad103 = ad106 := (by injection e106)
              replace hx106_0 := hX HB hx106_0
              replace hx106_1 := hX HB hx106_1
              replace hx106_2 := hX HB hx106_2
              have HR106_1 := am hi106_1
              have HC106_1 := am hl106_1
              clear hi106_1 hl106_1
              have HR106_2 := am hi106_2
              have HC106_2 := am hl106_2
              clear hi106_2 hl106_2
              replace p106 := eq_true p106
              replace q106 := eq_true q106
              refine sT [] 36 (uB3 BK104 (uB2 BK101 (uBx HB hw106_0 (uBx HB hw106_1 (uAx HB hw106_2))))) (fun hHeld => ?_); refine with_tabW spec_ShareBookOk.tab7 spec_ShareBookOk.bits7 (fun HT_ HW_ => ?_)
              generalize w30.drew = w31 at BK101 BK104 HB HR106_1 HR106_2 hx106_0 hx106_1 hx106_2 hHeld ⊢
              refine pU 0 (some 28) ?_
              refine tK8 1 (some 29) ?_
              refine oN 2 (some 30) fun K hK => ?_
              refine goes_ Try.func70 (by kernel_rfl) rfl #[.string ((rd_T56 l0_1 x3_2).f0)] (by rfl) rfl rfl (pY54) ?_
              with_reducible refine (spec_l1NameOk.calls k2 ((rd_T56 l0_1 x3_2).f0) true _ A16.out).mono ?_
              rintro e w' ⟨rfl, ⟨nd, rfl⟩⟩
              refine ⟨_, rfl, ?_⟩
              refine hK.out _ _ (uB3 BK104 (uB2 BK101 (uBx HB hw106_0 (uBx HB hw106_1 (uAx HB hw106_2))))).1 (fun hHeld => ?_)
              clear hK K
              refine nM ?_
              refine pU 3 (some 31) ?_
              refine pU 4 (some 32) ?_
              refine pU 5 (some 33) ?_
              refine pU 6 (some 34) ?_
              refine pU 7 (some 35) ?_
              refine pU 8 (some 36) ?_
              refine pU 10 (some 38) ?_
              refine pU 11 (some 39) ?_
              refine pU 15 (some 43) ?_
              refine tK8 9 (some 37) ?_
              refine pU 12 (some 40) ?_
              refine pU 13 (some 41) ?_
              refine tK8 14 (some 42) ?_
              refine tK8 16 (some 44) ?_
              refine pU 17 (some 45) ?_
              refine pU 18 (some 46) ?_
              refine pU 19 (some 47) ?_
              refine pU 20 (some 48) ?_
              refine pV 21 (some 49) ?_
              refine pV 22 (some 50) ?_
              refine pV 23 (some 51) ?_
              refine pV 24 (some 52) ?_
              refine pV 25 (some 53) ?_
              refine pV 26 (some 54) ?_
              refine pU 27 (some 55) ?_
              refine pU 28 (some 56) ?_
              refine pV 29 (some 57) ?_
              refine pV 30 (some 58) ?_
              refine pV 31 (some 59) ?_
              refine pV 32 (some 60) ?_
              refine pV 33 (some 61) ?_
              refine pV 34 (some 62) ?_
              refine pU 35 (some 63) ?_
              refine done_ (done_of HT_.out (by kernel_rfl)) ?_
              try go_wp2
              go_meet
              case rel => exact ⟨_, (true), (pY83), H', ⟨by have := HJ1.out; have := HK2.out; first | omega | exact Nat.le_refl _⟩, ⟨rB BK101.1⟩, ⟨rB BK104.1⟩, ⟨pY47⟩⟩
            ·rw [if_neg c21] at H
             exact absurd H (by simp)
           ·rw [if_neg c20] at H
            exact absurd H (by simp)
          ·rw [if_neg c18] at H
           have c18b0 : decide (0 < x3_2) = false := decide_eq_false c18
           clear c18
           (first | rw [c18b0] | (simp only [i64_w, i32_w]; rw [c18b0]) | skip)
           obtain ⟨t109, A32, H⟩ := bd H
           by_cases c33 : t109 = true
           ·subst c33
            replace H := iT H
            obtain ⟨t110, A34, H⟩ := bd H
            have H' := am H
            clear H
            try go_wp2
            obtain ⟨w35, eW_⟩ : ∃ w_, w_ = (((w13.setCell ⟨gb104, 0, none⟩ (.string ((rd_T56 l0_1 x3_2).f0))).setCell ⟨gb104, 1, none⟩ (.slice A103_1 ((rd_T56 l0_1 x3_2).f1).length c103_1)).setCell ⟨gb104, 2, none⟩ (.slice A103_2 ((rd_T56 l0_1 x3_2).f2).length c103_2)) := ⟨_, rfl⟩
            rw [← eW_]
            replace BK101 := uF3 eW_ BK101 NB101_104
            replace BK104 := uP3 eW_ BK104
            replace HB := uC3 eW_ HB GE104
            clear eW_
            replace BK101 := am (blk_drew BK101.1)
            replace BK104 := am (blk_drew BK104.1)
            replace HB := am (below_drew1 HB.1)
            refine sT [] 36 (uB3 BK104 (uA2 BK101)) (fun hHeld => ?_); refine with_tabW spec_ShareBookOk.tab7 spec_ShareBookOk.bits7 (fun HT_ HW_ => ?_)
            generalize w35.drew = w36 at BK101 BK104 HB hHeld ⊢
            refine pU 0 (some 28) ?_
            refine tK5 1 (some 29) ?_
            refine oN 2 (some 30) fun K hK => ?_
            refine goes_ Try.func70 (by kernel_rfl) rfl #[.string ((rd_T56 l0_1 x3_2).f0)] (by rfl) rfl rfl (pY54) ?_
            with_reducible refine (spec_l1NameOk.calls k2 ((rd_T56 l0_1 x3_2).f0) true _ A16.out).mono ?_
            rintro e w' ⟨rfl, ⟨nd, rfl⟩⟩
            refine ⟨_, rfl, ?_⟩
            refine hK.out _ _ (uB3 BK104 (uA2 BK101)).1 (fun hHeld => ?_)
            clear hK K
            refine nM ?_
            refine pU 3 (some 31) ?_
            refine pU 4 (some 32) ?_
            refine pU 5 (some 33) ?_
            refine pU 6 (some 34) ?_
            refine pU 7 (some 35) ?_
            refine pV 8 (some 36) ?_
            refine pV 9 (some 37) ?_
            refine pV 10 (some 38) ?_
            refine pV 11 (some 39) ?_
            refine pV 12 (some 40) ?_
            refine pV 13 (some 41) ?_
            refine pV 14 (some 42) ?_
            refine pV 15 (some 43) ?_
            refine pV 16 (some 44) ?_
            refine pV 17 (some 45) ?_
            refine pU 18 (some 46) ?_
            refine pU 19 (some 47) ?_
            refine pU 20 (some 48) ?_
            refine pU 21 (some 49) ?_
            refine pU 23 (some 51) ?_
            refine tK5 22 (some 50) ?_
            refine tK5 24 (some 52) ?_
            refine oN 25 (some 53) fun K hK => ?_
            refine goes_ Try.func71 (by kernel_rfl) rfl #[.slice A103_2 ((rd_T56 l0_1 x3_2).f2).length c103_2, .slice A0_0 l0_0.length c0_0] (by rfl) rfl rfl (pY54) ?_
            with_reducible refine (spec_l1NamesOk.calls k2 _ _ ((rd_T56 l0_1 x3_2).f2) _ _ l0_0 true _ ?side1 ?side2 ?side3 ?side4 A32.out).mono ?_
            (case side1 => exact pC (Kd.C_below HR103_2.1 (pY47)))
            (case side2 => exact HC103_2.1)
            (case side3 => exact pC (Kd.C_below HR0_0.1 (pY47)))
            (case side4 => exact HC0_0.1)
            rintro e w' ⟨rfl, ⟨nd, rfl⟩⟩
            refine ⟨_, rfl, ?_⟩
            refine hK.out _ _ (uB3 BK104 (uA2 BK101)).1 (fun hHeld => ?_)
            clear hK K
            refine nM ?_
            refine pU 26 (some 54) ?_
            refine pU 27 (some 55) ?_
            refine pU 28 (some 56) ?_
            refine pU 29 (some 57) ?_
            refine pU 31 (some 59) ?_
            refine tK5 30 (some 58) ?_
            refine tK5 32 (some 60) ?_
            refine oN 33 (some 61) fun K hK => ?_
            refine goes_ Try.func71 (by kernel_rfl) rfl #[.slice A103_1 ((rd_T56 l0_1 x3_2).f1).length c103_1, .slice A103_2 ((rd_T56 l0_1 x3_2).f2).length c103_2] (by rfl) rfl rfl (pY54) ?_
            with_reducible refine (spec_l1NamesOk.calls k2 _ _ ((rd_T56 l0_1 x3_2).f1) _ _ ((rd_T56 l0_1 x3_2).f2) t110 _ ?side1 ?side2 ?side3 ?side4 A34.out).mono ?_
            (case side1 => exact pC (Kd.C_below HR103_1.1 (pY47)))
            (case side2 => exact HC103_1.1)
            (case side3 => exact pC (Kd.C_below HR103_2.1 (pY47)))
            (case side4 => exact HC103_2.1)
            rintro e w' ⟨rfl, ⟨nd, rfl⟩⟩
            refine ⟨_, rfl, ?_⟩
            refine hK.out _ _ (uB3 BK104 (uA2 BK101)).1 (fun hHeld => ?_)
            clear hK K
            refine nM ?_
            refine pU 34 (some 62) ?_
            refine pU 35 (some 63) ?_
            refine done_ (done_of HT_.out (by kernel_rfl)) ?_
            try go_wp2
            go_meet
            case rel => exact ⟨_, (!t110), (pY83), H', ⟨by have := HJ1.out; have := HK2.out; first | omega | exact Nat.le_refl _⟩, ⟨rB BK101.1⟩, ⟨rB BK104.1⟩, ⟨pY47⟩⟩
           ·replace c33 := Bool.eq_false_iff.mpr c33
            subst c33
            replace H := iF H
            have H' := am H
            clear H
            try go_wp2
            obtain ⟨w37, eW_⟩ : ∃ w_, w_ = (((w13.setCell ⟨gb104, 0, none⟩ (.string ((rd_T56 l0_1 x3_2).f0))).setCell ⟨gb104, 1, none⟩ (.slice A103_1 ((rd_T56 l0_1 x3_2).f1).length c103_1)).setCell ⟨gb104, 2, none⟩ (.slice A103_2 ((rd_T56 l0_1 x3_2).f2).length c103_2)) := ⟨_, rfl⟩
            rw [← eW_]
            replace BK101 := uF3 eW_ BK101 NB101_104
            replace BK104 := uP3 eW_ BK104
            replace HB := uC3 eW_ HB GE104
            clear eW_
            replace BK101 := am (blk_drew BK101.1)
            replace BK104 := am (blk_drew BK104.1)
            replace HB := am (below_drew1 HB.1)
            refine sT [] 36 (uB3 BK104 (uA2 BK101)) (fun hHeld => ?_); refine with_tabW spec_ShareBookOk.tab7 spec_ShareBookOk.bits7 (fun HT_ HW_ => ?_)
            generalize w37.drew = w38 at BK101 BK104 HB hHeld ⊢
            refine pU 0 (some 28) ?_
            refine tK5 1 (some 29) ?_
            refine oN 2 (some 30) fun K hK => ?_
            refine goes_ Try.func70 (by kernel_rfl) rfl #[.string ((rd_T56 l0_1 x3_2).f0)] (by rfl) rfl rfl (pY54) ?_
            with_reducible refine (spec_l1NameOk.calls k2 ((rd_T56 l0_1 x3_2).f0) true _ A16.out).mono ?_
            rintro e w' ⟨rfl, ⟨nd, rfl⟩⟩
            refine ⟨_, rfl, ?_⟩
            refine hK.out _ _ (uB3 BK104 (uA2 BK101)).1 (fun hHeld => ?_)
            clear hK K
            refine nM ?_
            refine pU 3 (some 31) ?_
            refine pU 4 (some 32) ?_
            refine pU 5 (some 33) ?_
            refine pU 6 (some 34) ?_
            refine pU 7 (some 35) ?_
            refine pV 8 (some 36) ?_
            refine pV 9 (some 37) ?_
            refine pV 10 (some 38) ?_
            refine pV 11 (some 39) ?_
            refine pV 12 (some 40) ?_
            refine pV 13 (some 41) ?_
            refine pV 14 (some 42) ?_
            refine pV 15 (some 43) ?_
            refine pV 16 (some 44) ?_
            refine pV 17 (some 45) ?_
            refine pU 18 (some 46) ?_
            refine pU 19 (some 47) ?_
            refine pU 20 (some 48) ?_
            refine pU 21 (some 49) ?_
            refine pU 23 (some 51) ?_
            refine tK5 22 (some 50) ?_
            refine tK5 24 (some 52) ?_
            refine oN 25 (some 53) fun K hK => ?_
            refine goes_ Try.func71 (by kernel_rfl) rfl #[.slice A103_2 ((rd_T56 l0_1 x3_2).f2).length c103_2, .slice A0_0 l0_0.length c0_0] (by rfl) rfl rfl (pY54) ?_
            with_reducible refine (spec_l1NamesOk.calls k2 _ _ ((rd_T56 l0_1 x3_2).f2) _ _ l0_0 false _ ?side1 ?side2 ?side3 ?side4 A32.out).mono ?_
            (case side1 => exact pC (Kd.C_below HR103_2.1 (pY47)))
            (case side2 => exact HC103_2.1)
            (case side3 => exact pC (Kd.C_below HR0_0.1 (pY47)))
            (case side4 => exact HC0_0.1)
            rintro e w' ⟨rfl, ⟨nd, rfl⟩⟩
            refine ⟨_, rfl, ?_⟩
            refine hK.out _ _ (uB3 BK104 (uA2 BK101)).1 (fun hHeld => ?_)
            clear hK K
            refine nM ?_
            refine pU 26 (some 54) ?_
            refine pU 27 (some 55) ?_
            refine pU 28 (some 56) ?_
            refine pV 29 (some 57) ?_
            refine pV 30 (some 58) ?_
            refine pV 31 (some 59) ?_
            refine pV 32 (some 60) ?_
            refine pV 33 (some 61) ?_
            refine pV 34 (some 62) ?_
            refine pU 35 (some 63) ?_
            refine done_ (done_of HT_.out (by kernel_rfl)) ?_
            try go_wp2
            go_meet
            case rel => exact ⟨_, (true), (pY83), H', ⟨by have := HJ1.out; have := HK2.out; first | omega | exact Nat.le_refl _⟩, ⟨rB BK101.1⟩, ⟨rB BK104.1⟩, ⟨pY47⟩⟩
         ·replace c17 := Bool.eq_false_iff.mpr c17
          subst c17
          replace H := iF H
          have H' := am H
          clear H
          try go_wp2
          obtain ⟨w39, eW_⟩ : ∃ w_, w_ = (((w13.setCell ⟨gb104, 0, none⟩ (.string ((rd_T56 l0_1 x3_2).f0))).setCell ⟨gb104, 1, none⟩ (.slice A103_1 ((rd_T56 l0_1 x3_2).f1).length c103_1)).setCell ⟨gb104, 2, none⟩ (.slice A103_2 ((rd_T56 l0_1 x3_2).f2).length c103_2)) := ⟨_, rfl⟩
          rw [← eW_]
          replace BK101 := uF3 eW_ BK101 NB101_104
          replace BK104 := uP3 eW_ BK104
          replace HB := uC3 eW_ HB GE104
          clear eW_
          replace BK101 := am (blk_drew BK101.1)
          replace BK104 := am (blk_drew BK104.1)
          replace HB := am (below_drew1 HB.1)
          refine sT [] 36 (uA3 BK104) (fun hHeld => ?_); refine with_tabW spec_ShareBookOk.tab7 spec_ShareBookOk.bits7 (fun HT_ HW_ => ?_)
          generalize w39.drew = w40 at BK101 BK104 HB hHeld ⊢
          refine pU 0 (some 28) ?_
          refine tK3 1 (some 29) ?_
          refine oN 2 (some 30) fun K hK => ?_
          refine goes_ Try.func70 (by kernel_rfl) rfl #[.string ((rd_T56 l0_1 x3_2).f0)] (by rfl) rfl rfl (pY54) ?_
          with_reducible refine (spec_l1NameOk.calls k2 ((rd_T56 l0_1 x3_2).f0) false _ A16.out).mono ?_
          rintro e w' ⟨rfl, ⟨nd, rfl⟩⟩
          refine ⟨_, rfl, ?_⟩
          refine hK.out _ _ (uA3 BK104).1 (fun hHeld => ?_)
          clear hK K
          refine nM ?_
          refine pU 3 (some 31) ?_
          refine pU 4 (some 32) ?_
          refine pV 5 (some 33) ?_
          refine pV 6 (some 34) ?_
          refine pV 7 (some 35) ?_
          refine pV 8 (some 36) ?_
          refine pV 9 (some 37) ?_
          refine pV 10 (some 38) ?_
          refine pV 11 (some 39) ?_
          refine pV 12 (some 40) ?_
          refine pV 13 (some 41) ?_
          refine pV 14 (some 42) ?_
          refine pV 15 (some 43) ?_
          refine pV 16 (some 44) ?_
          refine pV 17 (some 45) ?_
          refine pV 18 (some 46) ?_
          refine pU 19 (some 47) ?_
          refine pU 20 (some 48) ?_
          refine pV 21 (some 49) ?_
          refine pV 22 (some 50) ?_
          refine pV 23 (some 51) ?_
          refine pV 24 (some 52) ?_
          refine pV 25 (some 53) ?_
          refine pV 26 (some 54) ?_
          refine pU 27 (some 55) ?_
          refine pU 28 (some 56) ?_
          refine pV 29 (some 57) ?_
          refine pV 30 (some 58) ?_
          refine pV 31 (some 59) ?_
          refine pV 32 (some 60) ?_
          refine pV 33 (some 61) ?_
          refine pV 34 (some 62) ?_
          refine pU 35 (some 63) ?_
          refine done_ (done_of HT_.out (by kernel_rfl)) ?_
          try go_wp2
          go_meet
          case rel => exact ⟨_, (true), (pY83), H', ⟨by have := HJ1.out; have := HK2.out; first | omega | exact Nat.le_refl _⟩, ⟨rB BK101.1⟩, ⟨rB BK104.1⟩, ⟨pY47⟩⟩
        case rest =>
         clear HC11
         try clear c10
         obtain ⟨kq, x63_10, rfl, HA, HJ10, BK101, BK104, HB⟩ := hcut
         cases kq with
         | zero => exact absurd HA.out (by simp [spec_ShareBookOk.j2])
         | succ kj10 =>
          have H := HA.out
          clear HA
          simp only [spec_ShareBookOk.j2] at H
          by_cases c41 : x63_10 = true
          ·subst c41
           replace H := iT H
           obtain rfl := Option.some.inj H
           go_wp2
           go_ret
           exact ⟨by first | rfl | (simp [errW_none, errW_some] <;> rfl) | (simp [*, errW_none, errW_some] <;> rfl), pY47⟩
          ·replace c41 := Bool.eq_false_iff.mpr c41
           subst c41
           replace H := iF H
           have H' := am H
           clear H
           go_wp2
           go_loopg [5] kj10 (fun kq v5 w' => ∃ (x5_4 : Int), v5 = .int .i64 x5_4 ∧ Aside0 (spec_ShareBookOk.l1 kq x3_2 x5_4 l0_0 l0_1 ((rd_T56 l0_1 x3_2).f0) ((rd_T56 l0_1 x3_2).f1) ((rd_T56 l0_1 x3_2).f2) = some r) ∧ Aside0 (kq ≤ kj10) ∧ Aside0 (w'.heap[gb101]? = some (.cells #[(.slice A0_0 l0_0.length c0_0), (.slice (some ad103) l0_1.length c0_1)] 31 (0, 0))) ∧ Aside0 (w'.heap[gb104]? = some (.cells #[.string ((rd_T56 l0_1 x3_2).f0), (.slice A103_1 ((rd_T56 l0_1 x3_2).f1).length c103_1), (.slice A103_2 ((rd_T56 l0_1 x3_2).f2).length c103_2)] 56 (0, 0))) ∧ Aside0 (Below w.heap.size w w'))
           case atStart => exact ⟨(0), (pY83), H', ⟨Nat.le_refl _⟩, ⟨rB BK101.1⟩, ⟨rB BK104.1⟩, ⟨pY47⟩⟩
           case round =>
            clear H'
            try clear c10
            try clear c41
            obtain ⟨x5_4, rfl, HA, HK4, BK101, BK104, HB⟩ := hrel
            cases gk with
            | zero => exact absurd HA.out (by simp [spec_ShareBookOk.l1])
            | succ k4 =>
             have H := HA.out
             clear HA
             simp only [spec_ShareBookOk.l1] at H
             by_cases c42 : x5_4 < x3_2
             ·rw [if_pos c42] at H
              have c42b0 : decide (x5_4 < x3_2) = true := decide_eq_true c42
              clear c42
              by_cases c43 : 0 ≤ x5_4
              ·rw [if_pos c43] at H
               have c43b0 : decide (0 ≤ x5_4) = true := decide_eq_true c43
               clear c43
               by_cases c44 : x5_4 < (l0_1.length : Int)
               ·rw [if_pos c44] at H
                have c44b0 : decide (x5_4 < (l0_1.length : Int)) = true := decide_eq_true c44
                clear c44
                obtain ⟨t112, A45, H⟩ := bd H
                by_cases c46 : t112 = true
                ·subst c46
                 replace H := iT H
                 obtain rfl := Option.some.inj H
                 try go_wp2
                 replace BK101 := am (blk_drew BK101.1)
                 replace BK104 := am (blk_drew BK104.1)
                 replace HB := am (below_drew1 HB.1)
                 have p111 : 0 ≤ (x5_4 : Int) := of_decide_eq_true (pY82)
                 have q111 : x5_4 < (l0_1.length : Int) := of_decide_eq_true (pY82)
                 obtain ⟨ad111, A111_1, c111_1, A111_2, c111_2, e111, hx111_0, hx111_1, hx111_2, hl111_1, hi111_1, hl111_2, hi111_2⟩ := at_T56 HR0_1.1 x5_4 p111 q111
                 have hw111_2 := hx111_2
                 have hw111_1 := hx111_1
                 have hw111_0 := hx111_0
                 obtain rfl : ad103 = ad111 := (by injection e111)
                 replace hx111_0 := hX HB hx111_0
                 replace hx111_1 := hX HB hx111_1
                 replace hx111_2 := hX HB hx111_2
                 have HR111_1 := am hi111_1
                 have HC111_1 := am hl111_1
                 clear hi111_1 hl111_1
                 have HR111_2 := am hi111_2
                 have HC111_2 := am hl111_2
                 clear hi111_2 hl111_2
                 replace p111 := eq_true p111
                 replace q111 := eq_true q111
                 refine sT [] 9 (uB3 BK104 (uB2 BK101 (uBx HB hw111_0 (uBx HB hw111_1 (uAx HB hw111_2))))) (fun hHeld => ?_); refine with_tabW spec_ShareBookOk.tab12 spec_ShareBookOk.bits12 (fun HT_ HW_ => ?_)
                 generalize wr.drew = w47 at BK101 BK104 HB HR111_1 HR111_2 hx111_0 hx111_1 hx111_2 hHeld ⊢
                 refine pU 0 (some 69) ?_
                 refine pU 2 (some 71) ?_
                 refine pU 4 (some 73) ?_
                 refine tK8 1 (some 70) ?_
                 refine tK8 3 (some 72) ?_
                 refine pU 5 (some 74) ?_
                 refine pU 6 (some 75) ?_
                 refine tK8 7 (some 76) ?_
                 refine oN 8 (some 77) fun K hK => ?_
                 refine goes_ Try.func72 (by kernel_rfl) rfl #[.slice A103_1 ((rd_T56 l0_1 x3_2).f1).length c103_1, .slice A111_1 ((rd_T56 l0_1 x5_4).f1).length c111_1] (by rfl) rfl rfl (pY54) ?_
                 with_reducible refine (spec_l1Share.calls k4 _ _ ((rd_T56 l0_1 x3_2).f1) _ _ ((rd_T56 l0_1 x5_4).f1) true _ ?side1 ?side2 ?side3 ?side4 A45.out).mono ?_
                 (case side1 => exact pC (Kd.C_below HR103_1.1 HB.1))
                 (case side2 => exact HC103_1.1)
                 (case side3 => exact pC (Kd.C_below HR111_1.1 HB.1))
                 (case side4 => exact HC111_1.1)
                 rintro e w' ⟨rfl, ⟨nd, rfl⟩⟩
                 refine ⟨_, rfl, ?_⟩
                 refine hK.out _ _ (uB3 BK104 (uB2 BK101 (uBx HB hw111_0 (uBx HB hw111_1 (uAx HB hw111_2))))).1 (fun hHeld => ?_)
                 clear hK K
                 refine nM ?_
                 refine done_ (done_of HT_.out (by kernel_rfl)) ?_
                 try go_wp2
                 go_ret
                 exact ⟨by first | rfl | (simp [errW_none, errW_some] <;> rfl) | (simp [*, errW_none, errW_some] <;> rfl), pY47⟩
                ·replace c46 := Bool.eq_false_iff.mpr c46
                 subst c46
                 replace H := iF H
                 have H' := am H
                 clear H
                 try go_wp2
                 replace BK101 := am (blk_drew BK101.1)
                 replace BK104 := am (blk_drew BK104.1)
                 replace HB := am (below_drew1 HB.1)
                 have p111 : 0 ≤ (x5_4 : Int) := of_decide_eq_true (pY82)
                 have q111 : x5_4 < (l0_1.length : Int) := of_decide_eq_true (pY82)
                 obtain ⟨ad111, A111_1, c111_1, A111_2, c111_2, e111, hx111_0, hx111_1, hx111_2, hl111_1, hi111_1, hl111_2, hi111_2⟩ := at_T56 HR0_1.1 x5_4 p111 q111
                 have hw111_2 := hx111_2
                 have hw111_1 := hx111_1
                 have hw111_0 := hx111_0
                 obtain rfl : ad103 = ad111 := (by injection e111)
                 replace hx111_0 := hX HB hx111_0
                 replace hx111_1 := hX HB hx111_1
                 replace hx111_2 := hX HB hx111_2
                 have HR111_1 := am hi111_1
                 have HC111_1 := am hl111_1
                 clear hi111_1 hl111_1
                 have HR111_2 := am hi111_2
                 have HC111_2 := am hl111_2
                 clear hi111_2 hl111_2
                 replace p111 := eq_true p111
                 replace q111 := eq_true q111
                 refine sT [] 9 (uB3 BK104 (uB2 BK101 (uBx HB hw111_0 (uBx HB hw111_1 (uAx HB hw111_2))))) (fun hHeld => ?_); refine with_tabW spec_ShareBookOk.tab12 spec_ShareBookOk.bits12 (fun HT_ HW_ => ?_)
                 generalize wr.drew = w48 at BK101 BK104 HB HR111_1 HR111_2 hx111_0 hx111_1 hx111_2 hHeld ⊢
                 refine pU 0 (some 69) ?_
                 refine pU 2 (some 71) ?_
                 refine pU 4 (some 73) ?_
                 refine tK8 1 (some 70) ?_
                 refine tK8 3 (some 72) ?_
                 refine pU 5 (some 74) ?_
                 refine pU 6 (some 75) ?_
                 refine tK8 7 (some 76) ?_
                 refine oN 8 (some 77) fun K hK => ?_
                 refine goes_ Try.func72 (by kernel_rfl) rfl #[.slice A103_1 ((rd_T56 l0_1 x3_2).f1).length c103_1, .slice A111_1 ((rd_T56 l0_1 x5_4).f1).length c111_1] (by rfl) rfl rfl (pY54) ?_
                 with_reducible refine (spec_l1Share.calls k4 _ _ ((rd_T56 l0_1 x3_2).f1) _ _ ((rd_T56 l0_1 x5_4).f1) false _ ?side1 ?side2 ?side3 ?side4 A45.out).mono ?_
                 (case side1 => exact pC (Kd.C_below HR103_1.1 HB.1))
                 (case side2 => exact HC103_1.1)
                 (case side3 => exact pC (Kd.C_below HR111_1.1 HB.1))
                 (case side4 => exact HC111_1.1)
                 rintro e w' ⟨rfl, ⟨nd, rfl⟩⟩
                 refine ⟨_, rfl, ?_⟩
                 refine hK.out _ _ (uB3 BK104 (uB2 BK101 (uBx HB hw111_0 (uBx HB hw111_1 (uAx HB hw111_2))))).1 (fun hHeld => ?_)
                 clear hK K
                 refine nM ?_
                 refine done_ (done_of HT_.out (by kernel_rfl)) ?_
                 try go_wp2
                 go_roundg k4
                 case measure => have := HJ1.out; have := HK2.out; have := HJ10.out; have := HK4.out; omega
                 case rel => exact ⟨(wrap64 (x5_4 + 1)), (pY83), H', ⟨by have := HJ1.out; have := HK2.out; have := HJ10.out; have := HK4.out; omega⟩, ⟨rB BK101.1⟩, ⟨rB BK104.1⟩, ⟨pY47⟩⟩
               ·rw [if_neg c44] at H
                exact absurd H (by simp)
              ·rw [if_neg c43] at H
               exact absurd H (by simp)
             ·rw [if_neg c42] at H
              have c42b0 : decide (x5_4 < x3_2) = false := decide_eq_false c42
              clear c42
              have H' := am H
              clear H
              go_wp2
              go_roundg k4
              case measure => have := HJ1.out; have := HK2.out; have := HJ10.out; have := HK4.out; omega
              case rel => exact ⟨(wrap64 (x3_2 + 1)), (pY83), H', ⟨by have := HJ1.out; have := HK2.out; have := HJ10.out; have := HK4.out; omega⟩, ⟨rB BK101.1⟩, ⟨pY47⟩⟩
       ·rw [if_neg c10] at H
        exact absurd H (by simp)
      ·rw [if_neg c9] at H
       have c9b0 : decide (x3_2 < (l0_1.length : Int)) = false := decide_eq_false c9
       clear c9
       obtain rfl := Option.some.inj H
       obtain ⟨hcz49_0, hcz49_1, hfz49_0, hfz49_1⟩ := cz2 BK101
       go_wp2
       go_ret
       exact ⟨by first | rfl | (simp [errW_none, errW_some] <;> rfl) | (simp [*, errW_none, errW_some] <;> rfl), pY53⟩
end Go.Proofs.Ytaofjgnhapnndaa.Q
namespace Go.Proofs.Ytaofjgnhapnndaa.Q
open Go.RowKit Go.Proofs.YtaofjgnhapnndaaW.PrintWords Go.Proofs.YtaofjgnhapnndaaW.PrintLast Go.Proofs.YtaofjgnhapnndaaW.PrintMore
set_option linter.unusedVariables false
set_option linter.unusedSimpArgs false
def spec_l2Can.l0 : Nat → Int → List ByteArray → Int → List ByteArray → List (S56) → Option (Bool)
 | 0, _, _, _, _, _ => none
 | k + 1, x1, x2, x7, x102000, x102001 => if x7 < (x102001.length : Int) then (if x7 = x1 then (spec_l2Can.l0 k x1 x2 (wrap64 (x7 + 1)) x102000 x102001) else (if 0 ≤ x7 then ((spec_l1Has.f k x2 ((rd_T56 x102001 x7).f0)).bind fun t103 => (if t103 = true then (spec_l2Can.l0 k x1 x2 (wrap64 (x7 + 1)) x102000 x102001) else (if 0 ≤ x1 then (if x1 < (x102001.length : Int) then ((spec_l1Share.f k ((rd_T56 x102001 x7).f1) ((rd_T56 x102001 x1).f2)).bind fun t106 => (if t106 = true then (some false) else (spec_l2Can.l0 k x1 x2 (wrap64 (x7 + 1)) x102000 x102001))) else (none)) else (none)))) else (none))) else (some true)
def spec_l2Can.f (k : Nat) (l0_0 : List ByteArray) (l0_1 : List (S56)) (a1 : Int) (l2 : List ByteArray) : Option (Bool) := spec_l2Can.l0 k a1 l2 0 l0_0 l0_1
set_option maxHeartbeats 8000000 in
set_option maxRecDepth 100000 in
theorem spec_l2Can.calls (k : Nat) (A0_0 : Option Addr) (c0_0 : Nat) (l0_0 : List ByteArray) (A0_1 : Option Addr) (c0_1 : Nat) (l0_1 : List (S56)) (a1 : Int) (A2 : Option Addr) (c2 : Nat) (l2 : List ByteArray) (r : Bool) (w : World) (hr0_0 : Kd.C Kd.string w A0_0 l0_0.length l0_0) (hc0_0 : l0_0.length ≤ c0_0) (hr0_1 : Kd.C k56 w A0_1 l0_1.length l0_1) (hc0_1 : l0_1.length ≤ c0_1) (hr2 : Kd.C Kd.string w A2 l2.length l2) (hc2 : l2.length ≤ c2) (h : spec_l2Can.f k l0_0 l0_1 a1 l2 = some r) :
  Calls Try.prog 83 #[.agg #[.slice A0_0 l0_0.length c0_0, .slice A0_1 l0_1.length c0_1], .int .i64 a1, .slice A2 l2.length c2] w fun e w' => e = .returned (.bool r) ∧ Below w.heap.size w w' := by
 have hu31 := Try.underlying31
 have HR0_0 := am hr0_0
 have HC0_0 := am hc0_0
 clear hr0_0 hc0_0
 have HR0_1 := am hr0_1
 have HC0_1 := am hc0_1
 clear hr0_1 hc0_1
 have HR2 := am hr2
 have HC2 := am hc2
 clear hr2 hc2
 have HB := am (Below.refl w.heap.size w)
 have H : (spec_l2Can.l0 k a1 l2 0 l0_0 l0_1) = some r := h
 clear h
 have H' := am H
 clear H
 go_enter Try.func83, Try.ntmps83
 go_wp2_with (first | (refine bX 3 #[.slice A0_0 l0_0.length c0_0, .slice A0_1 l0_1.length c0_1] 31 ?_; intro gb101 hg w4 hbox hb; have BK101 := am (hbox); have GW101 := am (pY52 : w.heap.size ≤ gb101); have GE101 := am (pY52 : w.heap.size ≤ gb101); replace HB := bS pY55 hb; clear hb hbox hg))
 repeat (go_quiet (first | ((with_reducible refine gate_dst (N := 3) rfl ?_); refine box_event ?hg (N := 3) ?hd (cs := #[.slice A0_0 l0_0.length c0_0, .slice A0_1 l0_1.length c0_1]) (t := 31) ?hr ?_; (case hd => rfl); (case hg => rfl); (case hr => first | (go_simp; done) | (go_simp; rfl)); intro gb101 hg w4 hbox hb; have n0_ := bS pY55 hb; have n1_ := am (hbox); have n2_ := am (pY52 : w.heap.size ≤ gb101); have n3_ := am (pY52 : w.heap.size ≤ gb101); clear HB; have HB := n0_; have BK101 := n1_; have GW101 := n2_; have GE101 := n3_; clear n0_ n1_ n2_ n3_; clear hb hbox hg)); try go_wp2_with (first | ((with_reducible refine gate_dst (N := 3) rfl ?_); refine box_event ?hg (N := 3) ?hd (cs := #[.slice A0_0 l0_0.length c0_0, .slice A0_1 l0_1.length c0_1]) (t := 31) ?hr ?_; (case hd => rfl); (case hg => rfl); (case hr => first | (go_simp; done) | (go_simp; rfl)); intro gb101 hg w4 hbox hb; have n0_ := bS pY55 hb; have n1_ := am (hbox); have n2_ := am (pY52 : w.heap.size ≤ gb101); have n3_ := am (pY52 : w.heap.size ≤ gb101); clear HB; have HB := n0_; have BK101 := n1_; have GW101 := n2_; have GE101 := n3_; clear n0_ n1_ n2_ n3_; clear hb hbox hg)))
 go_loopg [7] k (fun kq v7 w' => ∃ (x7_1 : Int), v7 = .int .i64 x7_1 ∧ Aside0 (spec_l2Can.l0 kq a1 l2 x7_1 l0_0 l0_1 = some r) ∧ Aside0 (kq ≤ k) ∧ Aside0 (w'.heap[gb101]? = some (.cells #[(.slice A0_0 l0_0.length c0_0), (.slice A0_1 l0_1.length c0_1)] 31 (0, 0))) ∧ Aside0 (Below w.heap.size w w'))
 case atStart => exact ⟨(0), (pY83), H', ⟨Nat.le_refl _⟩, ⟨rB BK101.1⟩, ⟨pY53⟩⟩
 case round =>
  clear H'
  try clear c2
  obtain ⟨x7_1, rfl, HA, HK1, BK101, HB⟩ := hrel
  cases gk with
  | zero => exact absurd HA.out (by simp [spec_l2Can.l0])
  | succ k1 =>
   have H := HA.out
   clear HA
   simp only [spec_l2Can.l0] at H
   by_cases c5 : x7_1 < (l0_1.length : Int)
   ·rw [if_pos c5] at H
    have c5b0 : decide (x7_1 < (l0_1.length : Int)) = true := decide_eq_true c5
    clear c5
    by_cases c6 : x7_1 = a1
    ·rw [if_pos c6] at H
     have c6b0 : (x7_1 == a1) = true := beq_iff_eq.mpr c6
     have c6b1 : (x7_1 != a1) = false := bne_eq_false_iff_eq.mpr c6
     clear c6
     have H' := am H
     clear H
     obtain ⟨hcz7_0, hcz7_1, hfz7_0, hfz7_1⟩ := cz2 BK101
     go_wp2
     repeat (go_quiet (fail); try go_wp2)
     go_roundg k1
     case measure => have := HK1.out; omega
     case rel => exact ⟨(wrap64 (x7_1 + 1)), (pY83), H', ⟨by have := HK1.out; omega⟩, ⟨rB BK101.1⟩, ⟨pY53⟩⟩
    ·rw [if_neg c6] at H
     have c6b0 : (x7_1 == a1) = false := beq_eq_false_iff_ne.mpr c6
     have c6b1 : (x7_1 != a1) = true := bne_iff_ne.mpr c6
     by_cases c8 : 0 ≤ x7_1
     ·rw [if_pos c8] at H
      have c8b0 : decide (0 ≤ x7_1) = true := decide_eq_true c8
      clear c8
      obtain ⟨t103, A9, H⟩ := bd H
      by_cases c10 : t103 = true
      ·subst c10
       replace H := iT H
       have H' := am H
       clear H
       obtain ⟨hcz11_0, hcz11_1, hfz11_0, hfz11_1⟩ := cz2 BK101
       have p102 : 0 ≤ (x7_1 : Int) := of_decide_eq_true (pY82)
       have q102 : x7_1 < (l0_1.length : Int) := of_decide_eq_true (pY82)
       obtain ⟨ad102, A102_1, c102_1, A102_2, c102_2, e102, hx102_0, hx102_1, hx102_2, hl102_1, hi102_1, hl102_2, hi102_2⟩ := at_T56 HR0_1.1 x7_1 p102 q102
       cases e102
       replace hx102_0 := hX HB hx102_0
       replace hx102_1 := hX HB hx102_1
       replace hx102_2 := hX HB hx102_2
       have HR102_1 := am hi102_1
       have HC102_1 := am hl102_1
       clear hi102_1 hl102_1
       have HR102_2 := am hi102_2
       have HC102_2 := am hl102_2
       clear hi102_2 hl102_2
       replace p102 := eq_true p102
       replace q102 := eq_true q102
       go_wp2_with (first | (go_at_call 80; refine cM (spec_l1Has.calls k1 _ _ l2 ((rd_T56 l0_1 x7_1).f0) true _ (pB HR2) HC2.1 A9.out) ?_; rintro w' ⟨nd, rfl⟩; (try first | exact ⟨rfl, _, World.drewN_drewN _ _ _⟩ | exact ⟨rfl, _, Eq.trans (World.drewN_drewN _ _ _) (congrArg (World.drewN _) (Nat.add_assoc _ _ _))⟩)))
       repeat (go_quiet (first | (go_at_call 80; (with_reducible refine (spec_l1Has.calls k1 _ _ l2 ((rd_T56 l0_1 x7_1).f0) true _ ?side1 ?side2 A9.out).mono ?_); (case side1 => exact pC (Kd.C_below HR2.1 HB.1)); (case side2 => exact HC2.1); rintro e w' ⟨rfl, ⟨nd, rfl⟩⟩; (try first | exact ⟨rfl, _, World.drewN_drewN _ _ _⟩ | exact ⟨rfl, _, Eq.trans (World.drewN_drewN _ _ _) (congrArg (World.drewN _) (Nat.add_assoc _ _ _))⟩))); try go_wp2_with (first | (go_at_call 80; (with_reducible refine (spec_l1Has.calls k1 _ _ l2 ((rd_T56 l0_1 x7_1).f0) true _ ?side1 ?side2 A9.out).mono ?_); (case side1 => exact pC (Kd.C_below HR2.1 HB.1)); (case side2 => exact HC2.1); rintro e w' ⟨rfl, ⟨nd, rfl⟩⟩; (try first | exact ⟨rfl, _, World.drewN_drewN _ _ _⟩ | exact ⟨rfl, _, Eq.trans (World.drewN_drewN _ _ _) (congrArg (World.drewN _) (Nat.add_assoc _ _ _))⟩))))
       go_roundg k1
       case measure => have := HK1.out; omega
       case rel => exact ⟨(wrap64 (x7_1 + 1)), (pY83), H', ⟨by have := HK1.out; omega⟩, ⟨rB BK101.1⟩, ⟨pY53⟩⟩
      ·replace c10 := Bool.eq_false_iff.mpr c10
       subst c10
       replace H := iF H
       by_cases c12 : 0 ≤ a1
       ·rw [if_pos c12] at H
        have c12b0 : decide (0 ≤ a1) = true := decide_eq_true c12
        clear c12
        by_cases c13 : a1 < (l0_1.length : Int)
        ·rw [if_pos c13] at H
         have c13b0 : decide (a1 < (l0_1.length : Int)) = true := decide_eq_true c13
         clear c13
         obtain ⟨t106, A14, H⟩ := bd H
         by_cases c15 : t106 = true
         ·subst c15
          replace H := iT H
          obtain rfl := Option.some.inj H
          obtain ⟨hcz16_0, hcz16_1, hfz16_0, hfz16_1⟩ := cz2 BK101
          have p102 : 0 ≤ (x7_1 : Int) := of_decide_eq_true (pY82)
          have q102 : x7_1 < (l0_1.length : Int) := of_decide_eq_true (pY82)
          obtain ⟨ad102, A102_1, c102_1, A102_2, c102_2, e102, hx102_0, hx102_1, hx102_2, hl102_1, hi102_1, hl102_2, hi102_2⟩ := at_T56 HR0_1.1 x7_1 p102 q102
          cases e102
          replace hx102_0 := hX HB hx102_0
          replace hx102_1 := hX HB hx102_1
          replace hx102_2 := hX HB hx102_2
          have HR102_1 := am hi102_1
          have HC102_1 := am hl102_1
          clear hi102_1 hl102_1
          have HR102_2 := am hi102_2
          have HC102_2 := am hl102_2
          clear hi102_2 hl102_2
          replace p102 := eq_true p102
          replace q102 := eq_true q102
          go_wp2_with (first | (go_at_call 80; refine cM (spec_l1Has.calls k1 _ _ l2 ((rd_T56 l0_1 x7_1).f0) false _ (pB HR2) HC2.1 A9.out) ?_; rintro w' ⟨nd, rfl⟩; (try first | exact ⟨rfl, _, World.drewN_drewN _ _ _⟩ | exact ⟨rfl, _, Eq.trans (World.drewN_drewN _ _ _) (congrArg (World.drewN _) (Nat.add_assoc _ _ _))⟩); have p104 : 0 ≤ (x7_1 : Int) := of_decide_eq_true (pY82); have q104 : x7_1 < (l0_1.length : Int) := of_decide_eq_true (pY82); obtain ⟨ad104, A104_1, c104_1, A104_2, c104_2, e104, hx104_0, hx104_1, hx104_2, hl104_1, hi104_1, hl104_2, hi104_2⟩ := at_T56 HR0_1.1 x7_1 p104 q104; obtain rfl : ad102 = ad104 := (by injection e104); replace hx104_0 := hX HB hx104_0; replace hx104_1 := hX HB hx104_1; replace hx104_2 := hX HB hx104_2; have HR104_1 := am hi104_1; have HC104_1 := am hl104_1; clear hi104_1 hl104_1; have HR104_2 := am hi104_2; have HC104_2 := am hl104_2; clear hi104_2 hl104_2; replace p104 := eq_true p104; replace q104 := eq_true q104; have ea_ := Option.some.inj (hx102_1.symm.trans hx104_1); injection ea_ with ea_ en_ ec_; subst ea_; subst ec_; clear en_; have ea_ := Option.some.inj (hx102_2.symm.trans hx104_2); injection ea_ with ea_ en_ ec_; subst ea_; subst ec_; clear en_; have p105 : 0 ≤ (a1 : Int) := of_decide_eq_true (pY82); have q105 : a1 < (l0_1.length : Int) := of_decide_eq_true (pY82); obtain ⟨ad105, A105_1, c105_1, A105_2, c105_2, e105, hx105_0, hx105_1, hx105_2, hl105_1, hi105_1, hl105_2, hi105_2⟩ := at_T56 HR0_1.1 a1 p105 q105; obtain rfl : ad102 = ad105 := (by injection e105); replace hx105_0 := hX HB hx105_0; replace hx105_1 := hX HB hx105_1; replace hx105_2 := hX HB hx105_2; have HR105_1 := am hi105_1; have HC105_1 := am hl105_1; clear hi105_1 hl105_1; have HR105_2 := am hi105_2; have HC105_2 := am hl105_2; clear hi105_2 hl105_2; replace p105 := eq_true p105; replace q105 := eq_true q105) | (go_at_call 72; refine cM (spec_l1Share.calls k1 _ _ ((rd_T56 l0_1 x7_1).f1) _ _ ((rd_T56 l0_1 a1).f2) true _ (pC (Kd.C_below HR104_1.1 (pY53))) HC104_1.1 (pC (Kd.C_below HR105_2.1 (pY53))) HC105_2.1 A14.out) ?_; rintro w' ⟨nd, rfl⟩; (try first | exact ⟨rfl, _, World.drewN_drewN _ _ _⟩ | exact ⟨rfl, _, Eq.trans (World.drewN_drewN _ _ _) (congrArg (World.drewN _) (Nat.add_assoc _ _ _))⟩)))
          repeat (go_quiet (first | (go_at_call 80; (with_reducible refine (spec_l1Has.calls k1 _ _ l2 ((rd_T56 l0_1 x7_1).f0) false _ ?side1 ?side2 A9.out).mono ?_); (case side1 => exact pC (Kd.C_below HR2.1 HB.1)); (case side2 => exact HC2.1); rintro e w' ⟨rfl, ⟨nd, rfl⟩⟩; (try first | exact ⟨rfl, _, World.drewN_drewN _ _ _⟩ | exact ⟨rfl, _, Eq.trans (World.drewN_drewN _ _ _) (congrArg (World.drewN _) (Nat.add_assoc _ _ _))⟩); have p104 : 0 ≤ (x7_1 : Int) := of_decide_eq_true (pY82); have q104 : x7_1 < (l0_1.length : Int) := of_decide_eq_true (pY82); obtain ⟨ad104, A104_1, c104_1, A104_2, c104_2, e104, hx104_0, hx104_1, hx104_2, hl104_1, hi104_1, hl104_2, hi104_2⟩ := at_T56 HR0_1.1 x7_1 p104 q104; obtain rfl : ad102 = ad104 := (by injection e104); replace hx104_0 := hX HB hx104_0; replace hx104_1 := hX HB hx104_1; replace hx104_2 := hX HB hx104_2; have HR104_1 := am hi104_1; have HC104_1 := am hl104_1; clear hi104_1 hl104_1; have HR104_2 := am hi104_2; have HC104_2 := am hl104_2; clear hi104_2 hl104_2; replace p104 := eq_true p104; replace q104 := eq_true q104; have ea_ := Option.some.inj (hx102_1.symm.trans hx104_1); injection ea_ with ea_ en_ ec_; subst ea_; subst ec_; clear en_; have ea_ := Option.some.inj (hx102_2.symm.trans hx104_2); injection ea_ with ea_ en_ ec_; subst ea_; subst ec_; clear en_; have p105 : 0 ≤ (a1 : Int) := of_decide_eq_true (pY82); have q105 : a1 < (l0_1.length : Int) := of_decide_eq_true (pY82); obtain ⟨ad105, A105_1, c105_1, A105_2, c105_2, e105, hx105_0, hx105_1, hx105_2, hl105_1, hi105_1, hl105_2, hi105_2⟩ := at_T56 HR0_1.1 a1 p105 q105; obtain rfl : ad102 = ad105 := (by injection e105); replace hx105_0 := hX HB hx105_0; replace hx105_1 := hX HB hx105_1; replace hx105_2 := hX HB hx105_2; have HR105_1 := am hi105_1; have HC105_1 := am hl105_1; clear hi105_1 hl105_1; have HR105_2 := am hi105_2; have HC105_2 := am hl105_2; clear hi105_2 hl105_2; replace p105 := eq_true p105; replace q105 := eq_true q105) | (go_at_call 72; (with_reducible refine (spec_l1Share.calls k1 _ _ ((rd_T56 l0_1 x7_1).f1) _ _ ((rd_T56 l0_1 a1).f2) true _ ?side1 ?side2 ?side3 ?side4 A14.out).mono ?_); (case side1 => exact pC (Kd.C_below HR104_1.1 (pY53))); (case side2 => exact HC104_1.1); (case side3 => exact pC (Kd.C_below HR105_2.1 (pY53))); (case side4 => exact HC105_2.1); rintro e w' ⟨rfl, ⟨nd, rfl⟩⟩; (try first | exact ⟨rfl, _, World.drewN_drewN _ _ _⟩ | exact ⟨rfl, _, Eq.trans (World.drewN_drewN _ _ _) (congrArg (World.drewN _) (Nat.add_assoc _ _ _))⟩))); try go_wp2_with (first | (go_at_call 80; (with_reducible refine (spec_l1Has.calls k1 _ _ l2 ((rd_T56 l0_1 x7_1).f0) false _ ?side1 ?side2 A9.out).mono ?_); (case side1 => exact pC (Kd.C_below HR2.1 HB.1)); (case side2 => exact HC2.1); rintro e w' ⟨rfl, ⟨nd, rfl⟩⟩; (try first | exact ⟨rfl, _, World.drewN_drewN _ _ _⟩ | exact ⟨rfl, _, Eq.trans (World.drewN_drewN _ _ _) (congrArg (World.drewN _) (Nat.add_assoc _ _ _))⟩); have p104 : 0 ≤ (x7_1 : Int) := of_decide_eq_true (pY82); have q104 : x7_1 < (l0_1.length : Int) := of_decide_eq_true (pY82); obtain ⟨ad104, A104_1, c104_1, A104_2, c104_2, e104, hx104_0, hx104_1, hx104_2, hl104_1, hi104_1, hl104_2, hi104_2⟩ := at_T56 HR0_1.1 x7_1 p104 q104; obtain rfl : ad102 = ad104 := (by injection e104); replace hx104_0 := hX HB hx104_0; replace hx104_1 := hX HB hx104_1; replace hx104_2 := hX HB hx104_2; have HR104_1 := am hi104_1; have HC104_1 := am hl104_1; clear hi104_1 hl104_1; have HR104_2 := am hi104_2; have HC104_2 := am hl104_2; clear hi104_2 hl104_2; replace p104 := eq_true p104; replace q104 := eq_true q104; have ea_ := Option.some.inj (hx102_1.symm.trans hx104_1); injection ea_ with ea_ en_ ec_; subst ea_; subst ec_; clear en_; have ea_ := Option.some.inj (hx102_2.symm.trans hx104_2); injection ea_ with ea_ en_ ec_; subst ea_; subst ec_; clear en_; have p105 : 0 ≤ (a1 : Int) := of_decide_eq_true (pY82); have q105 : a1 < (l0_1.length : Int) := of_decide_eq_true (pY82); obtain ⟨ad105, A105_1, c105_1, A105_2, c105_2, e105, hx105_0, hx105_1, hx105_2, hl105_1, hi105_1, hl105_2, hi105_2⟩ := at_T56 HR0_1.1 a1 p105 q105; obtain rfl : ad102 = ad105 := (by injection e105); replace hx105_0 := hX HB hx105_0; replace hx105_1 := hX HB hx105_1; replace hx105_2 := hX HB hx105_2; have HR105_1 := am hi105_1; have HC105_1 := am hl105_1; clear hi105_1 hl105_1; have HR105_2 := am hi105_2; have HC105_2 := am hl105_2; clear hi105_2 hl105_2; replace p105 := eq_true p105; replace q105 := eq_true q105) | (go_at_call 72; (with_reducible refine (spec_l1Share.calls k1 _ _ ((rd_T56 l0_1 x7_1).f1) _ _ ((rd_T56 l0_1 a1).f2) true _ ?side1 ?side2 ?side3 ?side4 A14.out).mono ?_); (case side1 => exact pC (Kd.C_below HR104_1.1 (pY53))); (case side2 => exact HC104_1.1); (case side3 => exact pC (Kd.C_below HR105_2.1 (pY53))); (case side4 => exact HC105_2.1); rintro e w' ⟨rfl, ⟨nd, rfl⟩⟩; (try first | exact ⟨rfl, _, World.drewN_drewN _ _ _⟩ | exact ⟨rfl, _, Eq.trans (World.drewN_drewN _ _ _) (congrArg (World.drewN _) (Nat.add_assoc _ _ _))⟩))))
          go_ret
          exact ⟨by first | rfl | (simp [errW_none, errW_some] <;> rfl) | (simp [*, errW_none, errW_some] <;> rfl), pY53⟩
         ·replace c15 := Bool.eq_false_iff.mpr c15
          subst c15
          replace H := iF H
          have H' := am H
          clear H
          obtain ⟨hcz17_0, hcz17_1, hfz17_0, hfz17_1⟩ := cz2 BK101
          have p102 : 0 ≤ (x7_1 : Int) := of_decide_eq_true (pY82)
          have q102 : x7_1 < (l0_1.length : Int) := of_decide_eq_true (pY82)
          obtain ⟨ad102, A102_1, c102_1, A102_2, c102_2, e102, hx102_0, hx102_1, hx102_2, hl102_1, hi102_1, hl102_2, hi102_2⟩ := at_T56 HR0_1.1 x7_1 p102 q102
          cases e102
          replace hx102_0 := hX HB hx102_0
          replace hx102_1 := hX HB hx102_1
          replace hx102_2 := hX HB hx102_2
          have HR102_1 := am hi102_1
          have HC102_1 := am hl102_1
          clear hi102_1 hl102_1
          have HR102_2 := am hi102_2
          have HC102_2 := am hl102_2
          clear hi102_2 hl102_2
          replace p102 := eq_true p102
          replace q102 := eq_true q102
          go_wp2_with (first | (go_at_call 80; refine cM (spec_l1Has.calls k1 _ _ l2 ((rd_T56 l0_1 x7_1).f0) false _ (pB HR2) HC2.1 A9.out) ?_; rintro w' ⟨nd, rfl⟩; (try first | exact ⟨rfl, _, World.drewN_drewN _ _ _⟩ | exact ⟨rfl, _, Eq.trans (World.drewN_drewN _ _ _) (congrArg (World.drewN _) (Nat.add_assoc _ _ _))⟩); have p104 : 0 ≤ (x7_1 : Int) := of_decide_eq_true (pY82); have q104 : x7_1 < (l0_1.length : Int) := of_decide_eq_true (pY82); obtain ⟨ad104, A104_1, c104_1, A104_2, c104_2, e104, hx104_0, hx104_1, hx104_2, hl104_1, hi104_1, hl104_2, hi104_2⟩ := at_T56 HR0_1.1 x7_1 p104 q104; obtain rfl : ad102 = ad104 := (by injection e104); replace hx104_0 := hX HB hx104_0; replace hx104_1 := hX HB hx104_1; replace hx104_2 := hX HB hx104_2; have HR104_1 := am hi104_1; have HC104_1 := am hl104_1; clear hi104_1 hl104_1; have HR104_2 := am hi104_2; have HC104_2 := am hl104_2; clear hi104_2 hl104_2; replace p104 := eq_true p104; replace q104 := eq_true q104; have ea_ := Option.some.inj (hx102_1.symm.trans hx104_1); injection ea_ with ea_ en_ ec_; subst ea_; subst ec_; clear en_; have ea_ := Option.some.inj (hx102_2.symm.trans hx104_2); injection ea_ with ea_ en_ ec_; subst ea_; subst ec_; clear en_; have p105 : 0 ≤ (a1 : Int) := of_decide_eq_true (pY82); have q105 : a1 < (l0_1.length : Int) := of_decide_eq_true (pY82); obtain ⟨ad105, A105_1, c105_1, A105_2, c105_2, e105, hx105_0, hx105_1, hx105_2, hl105_1, hi105_1, hl105_2, hi105_2⟩ := at_T56 HR0_1.1 a1 p105 q105; obtain rfl : ad102 = ad105 := (by injection e105); replace hx105_0 := hX HB hx105_0; replace hx105_1 := hX HB hx105_1; replace hx105_2 := hX HB hx105_2; have HR105_1 := am hi105_1; have HC105_1 := am hl105_1; clear hi105_1 hl105_1; have HR105_2 := am hi105_2; have HC105_2 := am hl105_2; clear hi105_2 hl105_2; replace p105 := eq_true p105; replace q105 := eq_true q105) | (go_at_call 72; refine cM (spec_l1Share.calls k1 _ _ ((rd_T56 l0_1 x7_1).f1) _ _ ((rd_T56 l0_1 a1).f2) false _ (pC (Kd.C_below HR104_1.1 (pY53))) HC104_1.1 (pC (Kd.C_below HR105_2.1 (pY53))) HC105_2.1 A14.out) ?_; rintro w' ⟨nd, rfl⟩; (try first | exact ⟨rfl, _, World.drewN_drewN _ _ _⟩ | exact ⟨rfl, _, Eq.trans (World.drewN_drewN _ _ _) (congrArg (World.drewN _) (Nat.add_assoc _ _ _))⟩)))
          repeat (go_quiet (first | (go_at_call 80; (with_reducible refine (spec_l1Has.calls k1 _ _ l2 ((rd_T56 l0_1 x7_1).f0) false _ ?side1 ?side2 A9.out).mono ?_); (case side1 => exact pC (Kd.C_below HR2.1 HB.1)); (case side2 => exact HC2.1); rintro e w' ⟨rfl, ⟨nd, rfl⟩⟩; (try first | exact ⟨rfl, _, World.drewN_drewN _ _ _⟩ | exact ⟨rfl, _, Eq.trans (World.drewN_drewN _ _ _) (congrArg (World.drewN _) (Nat.add_assoc _ _ _))⟩); have p104 : 0 ≤ (x7_1 : Int) := of_decide_eq_true (pY82); have q104 : x7_1 < (l0_1.length : Int) := of_decide_eq_true (pY82); obtain ⟨ad104, A104_1, c104_1, A104_2, c104_2, e104, hx104_0, hx104_1, hx104_2, hl104_1, hi104_1, hl104_2, hi104_2⟩ := at_T56 HR0_1.1 x7_1 p104 q104; obtain rfl : ad102 = ad104 := (by injection e104); replace hx104_0 := hX HB hx104_0; replace hx104_1 := hX HB hx104_1; replace hx104_2 := hX HB hx104_2; have HR104_1 := am hi104_1; have HC104_1 := am hl104_1; clear hi104_1 hl104_1; have HR104_2 := am hi104_2; have HC104_2 := am hl104_2; clear hi104_2 hl104_2; replace p104 := eq_true p104; replace q104 := eq_true q104; have ea_ := Option.some.inj (hx102_1.symm.trans hx104_1); injection ea_ with ea_ en_ ec_; subst ea_; subst ec_; clear en_; have ea_ := Option.some.inj (hx102_2.symm.trans hx104_2); injection ea_ with ea_ en_ ec_; subst ea_; subst ec_; clear en_; have p105 : 0 ≤ (a1 : Int) := of_decide_eq_true (pY82); have q105 : a1 < (l0_1.length : Int) := of_decide_eq_true (pY82); obtain ⟨ad105, A105_1, c105_1, A105_2, c105_2, e105, hx105_0, hx105_1, hx105_2, hl105_1, hi105_1, hl105_2, hi105_2⟩ := at_T56 HR0_1.1 a1 p105 q105; obtain rfl : ad102 = ad105 := (by injection e105); replace hx105_0 := hX HB hx105_0; replace hx105_1 := hX HB hx105_1; replace hx105_2 := hX HB hx105_2; have HR105_1 := am hi105_1; have HC105_1 := am hl105_1; clear hi105_1 hl105_1; have HR105_2 := am hi105_2; have HC105_2 := am hl105_2; clear hi105_2 hl105_2; replace p105 := eq_true p105; replace q105 := eq_true q105) | (go_at_call 72; (with_reducible refine (spec_l1Share.calls k1 _ _ ((rd_T56 l0_1 x7_1).f1) _ _ ((rd_T56 l0_1 a1).f2) false _ ?side1 ?side2 ?side3 ?side4 A14.out).mono ?_); (case side1 => exact pC (Kd.C_below HR104_1.1 (pY53))); (case side2 => exact HC104_1.1); (case side3 => exact pC (Kd.C_below HR105_2.1 (pY53))); (case side4 => exact HC105_2.1); rintro e w' ⟨rfl, ⟨nd, rfl⟩⟩; (try first | exact ⟨rfl, _, World.drewN_drewN _ _ _⟩ | exact ⟨rfl, _, Eq.trans (World.drewN_drewN _ _ _) (congrArg (World.drewN _) (Nat.add_assoc _ _ _))⟩))); try go_wp2_with (first | (go_at_call 80; (with_reducible refine (spec_l1Has.calls k1 _ _ l2 ((rd_T56 l0_1 x7_1).f0) false _ ?side1 ?side2 A9.out).mono ?_); (case side1 => exact pC (Kd.C_below HR2.1 HB.1)); (case side2 => exact HC2.1); rintro e w' ⟨rfl, ⟨nd, rfl⟩⟩; (try first | exact ⟨rfl, _, World.drewN_drewN _ _ _⟩ | exact ⟨rfl, _, Eq.trans (World.drewN_drewN _ _ _) (congrArg (World.drewN _) (Nat.add_assoc _ _ _))⟩); have p104 : 0 ≤ (x7_1 : Int) := of_decide_eq_true (pY82); have q104 : x7_1 < (l0_1.length : Int) := of_decide_eq_true (pY82); obtain ⟨ad104, A104_1, c104_1, A104_2, c104_2, e104, hx104_0, hx104_1, hx104_2, hl104_1, hi104_1, hl104_2, hi104_2⟩ := at_T56 HR0_1.1 x7_1 p104 q104; obtain rfl : ad102 = ad104 := (by injection e104); replace hx104_0 := hX HB hx104_0; replace hx104_1 := hX HB hx104_1; replace hx104_2 := hX HB hx104_2; have HR104_1 := am hi104_1; have HC104_1 := am hl104_1; clear hi104_1 hl104_1; have HR104_2 := am hi104_2; have HC104_2 := am hl104_2; clear hi104_2 hl104_2; replace p104 := eq_true p104; replace q104 := eq_true q104; have ea_ := Option.some.inj (hx102_1.symm.trans hx104_1); injection ea_ with ea_ en_ ec_; subst ea_; subst ec_; clear en_; have ea_ := Option.some.inj (hx102_2.symm.trans hx104_2); injection ea_ with ea_ en_ ec_; subst ea_; subst ec_; clear en_; have p105 : 0 ≤ (a1 : Int) := of_decide_eq_true (pY82); have q105 : a1 < (l0_1.length : Int) := of_decide_eq_true (pY82); obtain ⟨ad105, A105_1, c105_1, A105_2, c105_2, e105, hx105_0, hx105_1, hx105_2, hl105_1, hi105_1, hl105_2, hi105_2⟩ := at_T56 HR0_1.1 a1 p105 q105; obtain rfl : ad102 = ad105 := (by injection e105); replace hx105_0 := hX HB hx105_0; replace hx105_1 := hX HB hx105_1; replace hx105_2 := hX HB hx105_2; have HR105_1 := am hi105_1; have HC105_1 := am hl105_1; clear hi105_1 hl105_1; have HR105_2 := am hi105_2; have HC105_2 := am hl105_2; clear hi105_2 hl105_2; replace p105 := eq_true p105; replace q105 := eq_true q105) | (go_at_call 72; (with_reducible refine (spec_l1Share.calls k1 _ _ ((rd_T56 l0_1 x7_1).f1) _ _ ((rd_T56 l0_1 a1).f2) false _ ?side1 ?side2 ?side3 ?side4 A14.out).mono ?_); (case side1 => exact pC (Kd.C_below HR104_1.1 (pY53))); (case side2 => exact HC104_1.1); (case side3 => exact pC (Kd.C_below HR105_2.1 (pY53))); (case side4 => exact HC105_2.1); rintro e w' ⟨rfl, ⟨nd, rfl⟩⟩; (try first | exact ⟨rfl, _, World.drewN_drewN _ _ _⟩ | exact ⟨rfl, _, Eq.trans (World.drewN_drewN _ _ _) (congrArg (World.drewN _) (Nat.add_assoc _ _ _))⟩))))
          go_roundg k1
          case measure => have := HK1.out; omega
          case rel => exact ⟨(wrap64 (x7_1 + 1)), (pY83), H', ⟨by have := HK1.out; omega⟩, ⟨rB BK101.1⟩, ⟨pY53⟩⟩
        ·rw [if_neg c13] at H
         exact absurd H (by simp)
       ·rw [if_neg c12] at H
        exact absurd H (by simp)
     ·rw [if_neg c8] at H
      exact absurd H (by simp)
   ·rw [if_neg c5] at H
    have c5b0 : decide (x7_1 < (l0_1.length : Int)) = false := decide_eq_false c5
    clear c5
    obtain rfl := Option.some.inj H
    obtain ⟨hcz18_0, hcz18_1, hfz18_0, hfz18_1⟩ := cz2 BK101
    go_wp2
    repeat (go_quiet (fail); try go_wp2)
    go_ret
    exact ⟨by first | rfl | (simp [errW_none, errW_some] <;> rfl) | (simp [*, errW_none, errW_some] <;> rfl), pY53⟩
end Go.Proofs.Ytaofjgnhapnndaa.Q
namespace Go.Proofs.Ytaofjgnhapnndaa.Q
open Go.RowKit Go.Proofs.YtaofjgnhapnndaaW.PrintWords Go.Proofs.YtaofjgnhapnndaaW.PrintLast Go.Proofs.YtaofjgnhapnndaaW.PrintMore
set_option linter.unusedVariables false
set_option linter.unusedSimpArgs false
def spec_l2Next.l0 : Nat → List ByteArray → Int → List ByteArray → List (S56) → Option (Int)
 | 0, _, _, _, _ => none
 | k + 1, x1, x5, x102000, x102001 => if x5 < (x102001.length : Int) then (if 0 ≤ x5 then ((spec_l1Has.f k x1 ((rd_T56 x102001 x5).f0)).bind fun t103 => (if t103 = true then (spec_l2Next.l0 k x1 (wrap64 (x5 + 1)) x102000 x102001) else ((spec_l2Can.f k x102000 x102001 x5 x1).bind fun t104 => (if t104 = true then (some x5) else (spec_l2Next.l0 k x1 (wrap64 (x5 + 1)) x102000 x102001))))) else (none)) else (some (-1))
def spec_l2Next.f (k : Nat) (l0_0 : List ByteArray) (l0_1 : List (S56)) (l1 : List ByteArray) : Option (Int) := spec_l2Next.l0 k l1 0 l0_0 l0_1
set_option maxHeartbeats 8000000 in
set_option maxRecDepth 100000 in
theorem spec_l2Next.calls (k : Nat) (A0_0 : Option Addr) (c0_0 : Nat) (l0_0 : List ByteArray) (A0_1 : Option Addr) (c0_1 : Nat) (l0_1 : List (S56)) (A1 : Option Addr) (c1 : Nat) (l1 : List ByteArray) (r : Int) (w : World) (hr0_0 : Kd.C Kd.string w A0_0 l0_0.length l0_0) (hc0_0 : l0_0.length ≤ c0_0) (hr0_1 : Kd.C k56 w A0_1 l0_1.length l0_1) (hc0_1 : l0_1.length ≤ c0_1) (hr1 : Kd.C Kd.string w A1 l1.length l1) (hc1 : l1.length ≤ c1) (h : spec_l2Next.f k l0_0 l0_1 l1 = some r) :
  Calls Try.prog 88 #[.agg #[.slice A0_0 l0_0.length c0_0, .slice A0_1 l0_1.length c0_1], .slice A1 l1.length c1] w fun e w' => e = .returned (.int .i64 r) ∧ Below w.heap.size w w' := by
 have hu31 := Try.underlying31
 have HR0_0 := am hr0_0
 have HC0_0 := am hc0_0
 clear hr0_0 hc0_0
 have HR0_1 := am hr0_1
 have HC0_1 := am hc0_1
 clear hr0_1 hc0_1
 have HR1 := am hr1
 have HC1 := am hc1
 clear hr1 hc1
 have HB := am (Below.refl w.heap.size w)
 have H : (spec_l2Next.l0 k l1 0 l0_0 l0_1) = some r := h
 clear h
 have H' := am H
 clear H
 go_enter Try.func88, Try.ntmps88
 go_wp2_with (first | (refine bX 2 #[.slice A0_0 l0_0.length c0_0, .slice A0_1 l0_1.length c0_1] 31 ?_; intro gb101 hg w3 hbox hb; have BK101 := am (hbox); have GW101 := am (pY52 : w.heap.size ≤ gb101); have GE101 := am (pY52 : w.heap.size ≤ gb101); replace HB := bS pY55 hb; clear hb hbox hg))
 go_loopg [5] k (fun kq v5 w' => ∃ (x5_1 : Int), v5 = .int .i64 x5_1 ∧ Aside0 (spec_l2Next.l0 kq l1 x5_1 l0_0 l0_1 = some r) ∧ Aside0 (kq ≤ k) ∧ Aside0 (w'.heap[gb101]? = some (.cells #[(.slice A0_0 l0_0.length c0_0), (.slice A0_1 l0_1.length c0_1)] 31 (0, 0))) ∧ Aside0 (Below w.heap.size w w'))
 case atStart => exact ⟨(0), (pY83), H', ⟨Nat.le_refl _⟩, ⟨rB BK101.1⟩, ⟨pY53⟩⟩
 case round =>
  clear H'
  try clear c1
  obtain ⟨x5_1, rfl, HA, HK1, BK101, HB⟩ := hrel
  cases gk with
  | zero => exact absurd HA.out (by simp [spec_l2Next.l0])
  | succ k1 =>
   have H := HA.out
   clear HA
   simp only [spec_l2Next.l0] at H
   by_cases c4 : x5_1 < (l0_1.length : Int)
   ·rw [if_pos c4] at H
    have c4b0 : decide (x5_1 < (l0_1.length : Int)) = true := decide_eq_true c4
    clear c4
    by_cases c5 : 0 ≤ x5_1
    ·rw [if_pos c5] at H
     have c5b0 : decide (0 ≤ x5_1) = true := decide_eq_true c5
     clear c5
     obtain ⟨t103, A6, H⟩ := bd H
     by_cases c7 : t103 = true
     ·subst c7
      replace H := iT H
      have H' := am H
      clear H
      obtain ⟨hcz8_0, hcz8_1, hfz8_0, hfz8_1⟩ := cz2 BK101
      have p102 : 0 ≤ (x5_1 : Int) := of_decide_eq_true (pY82)
      have q102 : x5_1 < (l0_1.length : Int) := of_decide_eq_true (pY82)
      obtain ⟨ad102, A102_1, c102_1, A102_2, c102_2, e102, hx102_0, hx102_1, hx102_2, hl102_1, hi102_1, hl102_2, hi102_2⟩ := at_T56 HR0_1.1 x5_1 p102 q102
      cases e102
      replace hx102_0 := hX HB hx102_0
      replace hx102_1 := hX HB hx102_1
      replace hx102_2 := hX HB hx102_2
      have HR102_1 := am hi102_1
      have HC102_1 := am hl102_1
      clear hi102_1 hl102_1
      have HR102_2 := am hi102_2
      have HC102_2 := am hl102_2
      clear hi102_2 hl102_2
      replace p102 := eq_true p102
      replace q102 := eq_true q102
      go_wp2_with (first | ((with_reducible refine gate_callee (f := 80) rfl ?_); refine goesL_ (some 20) rfl rfl Try.func80 (by kernel_rfl) rfl #[.slice A1 l1.length c1, .string ((rd_T56 l0_1 x5_1).f0)] rfl (pY54) ?_; (with_reducible refine (spec_l1Has.calls k1 _ _ l1 ((rd_T56 l0_1 x5_1).f0) true _ ?side1 ?side2 A6.out).mono ?_); (case side1 => exact pC (Kd.C_below HR1.1 HB.1)); (case side2 => exact HC1.1); rintro e w' ⟨rfl, ⟨nd, rfl⟩⟩; refine ⟨_, rfl, ?_⟩))
      go_roundg k1
      case measure => have := HK1.out; omega
      case rel => exact ⟨(wrap64 (x5_1 + 1)), (pY83), H', ⟨by have := HK1.out; omega⟩, ⟨rB BK101.1⟩, ⟨pY53⟩⟩
     ·replace c7 := Bool.eq_false_iff.mpr c7
      subst c7
      replace H := iF H
      obtain ⟨t104, A9, H⟩ := bd H
      by_cases c10 : t104 = true
      ·subst c10
       replace H := iT H
       obtain rfl := Option.some.inj H
       obtain ⟨hcz11_0, hcz11_1, hfz11_0, hfz11_1⟩ := cz2 BK101
       have p102 : 0 ≤ (x5_1 : Int) := of_decide_eq_true (pY82)
       have q102 : x5_1 < (l0_1.length : Int) := of_decide_eq_true (pY82)
       obtain ⟨ad102, A102_1, c102_1, A102_2, c102_2, e102, hx102_0, hx102_1, hx102_2, hl102_1, hi102_1, hl102_2, hi102_2⟩ := at_T56 HR0_1.1 x5_1 p102 q102
       cases e102
       replace hx102_0 := hX HB hx102_0
       replace hx102_1 := hX HB hx102_1
       replace hx102_2 := hX HB hx102_2
       have HR102_1 := am hi102_1
       have HC102_1 := am hl102_1
       clear hi102_1 hl102_1
       have HR102_2 := am hi102_2
       have HC102_2 := am hl102_2
       clear hi102_2 hl102_2
       replace p102 := eq_true p102
       replace q102 := eq_true q102
       go_wp2_with (first | ((with_reducible refine gate_callee (f := 80) rfl ?_); refine goesL_ (some 20) rfl rfl Try.func80 (by kernel_rfl) rfl #[.slice A1 l1.length c1, .string ((rd_T56 l0_1 x5_1).f0)] rfl (pY54) ?_; (with_reducible refine (spec_l1Has.calls k1 _ _ l1 ((rd_T56 l0_1 x5_1).f0) false _ ?side1 ?side2 A6.out).mono ?_); (case side1 => exact pC (Kd.C_below HR1.1 HB.1)); (case side2 => exact HC1.1); rintro e w' ⟨rfl, ⟨nd, rfl⟩⟩; refine ⟨_, rfl, ?_⟩) | (go_at_call 83; refine cM (spec_l2Can.calls k1 _ _ l0_0 _ _ l0_1 x5_1 _ _ l1 true _ (pC (Kd.C_below HR0_0.1 (pY53))) HC0_0.1 (pC (Kd.C_below HR0_1.1 (pY53))) HC0_1.1 (pC (Kd.C_below HR1.1 (pY53))) HC1.1 A9.out) ?_; rintro w12 hb; replace BK101 := bB pY58 hb; replace HB := bS pY53 hb; (try clear hb); (try clear hb2); (try clear hk); (try clear hi)))
       go_ret
       exact ⟨by first | rfl | (simp [errW_none, errW_some] <;> rfl) | (simp [*, errW_none, errW_some] <;> rfl), pY53⟩
      ·replace c10 := Bool.eq_false_iff.mpr c10
       subst c10
       replace H := iF H
       have H' := am H
       clear H
       obtain ⟨hcz13_0, hcz13_1, hfz13_0, hfz13_1⟩ := cz2 BK101
       have p102 : 0 ≤ (x5_1 : Int) := of_decide_eq_true (pY82)
       have q102 : x5_1 < (l0_1.length : Int) := of_decide_eq_true (pY82)
       obtain ⟨ad102, A102_1, c102_1, A102_2, c102_2, e102, hx102_0, hx102_1, hx102_2, hl102_1, hi102_1, hl102_2, hi102_2⟩ := at_T56 HR0_1.1 x5_1 p102 q102
       cases e102
       replace hx102_0 := hX HB hx102_0
       replace hx102_1 := hX HB hx102_1
       replace hx102_2 := hX HB hx102_2
       have HR102_1 := am hi102_1
       have HC102_1 := am hl102_1
       clear hi102_1 hl102_1
       have HR102_2 := am hi102_2
       have HC102_2 := am hl102_2
       clear hi102_2 hl102_2
       replace p102 := eq_true p102
       replace q102 := eq_true q102
       go_wp2_with (first | ((with_reducible refine gate_callee (f := 80) rfl ?_); refine goesL_ (some 20) rfl rfl Try.func80 (by kernel_rfl) rfl #[.slice A1 l1.length c1, .string ((rd_T56 l0_1 x5_1).f0)] rfl (pY54) ?_; (with_reducible refine (spec_l1Has.calls k1 _ _ l1 ((rd_T56 l0_1 x5_1).f0) false _ ?side1 ?side2 A6.out).mono ?_); (case side1 => exact pC (Kd.C_below HR1.1 HB.1)); (case side2 => exact HC1.1); rintro e w' ⟨rfl, ⟨nd, rfl⟩⟩; refine ⟨_, rfl, ?_⟩) | (go_at_call 83; refine cM (spec_l2Can.calls k1 _ _ l0_0 _ _ l0_1 x5_1 _ _ l1 false _ (pC (Kd.C_below HR0_0.1 (pY53))) HC0_0.1 (pC (Kd.C_below HR0_1.1 (pY53))) HC0_1.1 (pC (Kd.C_below HR1.1 (pY53))) HC1.1 A9.out) ?_; rintro w14 hb; replace BK101 := bB pY58 hb; replace HB := bS pY53 hb; (try clear hb); (try clear hb2); (try clear hk); (try clear hi)))
       go_roundg k1
       case measure => have := HK1.out; omega
       case rel => exact ⟨(wrap64 (x5_1 + 1)), (pY83), H', ⟨by have := HK1.out; omega⟩, ⟨rB BK101.1⟩, ⟨pY53⟩⟩
    ·rw [if_neg c5] at H
     exact absurd H (by simp)
   ·rw [if_neg c4] at H
    have c4b0 : decide (x5_1 < (l0_1.length : Int)) = false := decide_eq_false c4
    clear c4
    obtain rfl := Option.some.inj H
    obtain ⟨hcz15_0, hcz15_1, hfz15_0, hfz15_1⟩ := cz2 BK101
    go_wp2
    go_ret
    exact ⟨by first | rfl | (simp [errW_none, errW_some] <;> rfl) | (simp [*, errW_none, errW_some] <;> rfl), pY53⟩
end Go.Proofs.Ytaofjgnhapnndaa.Q
namespace Go.Proofs.Ytaofjgnhapnndaa.Q
open Go.RowKit Go.Proofs.YtaofjgnhapnndaaW.PrintWords Go.Proofs.YtaofjgnhapnndaaW.PrintLast Go.Proofs.YtaofjgnhapnndaaW.PrintMore
set_option linter.unusedVariables false
set_option linter.unusedSimpArgs false
def spec_ShareOrder.l0 : Nat → List ByteArray → List ByteArray → List (S56) → Option (List ByteArray × Bool)
 | 0, _, _, _ => none
 | k + 1, x4, x102000, x102001 => if (x4.length : Int) < (x102001.length : Int) then ((spec_l2Next.f k x102000 x102001 x4).bind fun t106 => (if t106 < 0 then (some ((([] : List ByteArray)), false)) else (if 0 ≤ t106 then (if t106 < (x102001.length : Int) then (if x4.length < 8796093022208 then (spec_ShareOrder.l0 k (x4 ++ [(rd_T56 x102001 t106).f0]) x102000 x102001) else (none)) else (none)) else (none)))) else (some (x4, true))
def spec_ShareOrder.f (k : Nat) (l0_0 : List ByteArray) (l0_1 : List (S56)) : Option (List ByteArray × Bool) := (some (([] : List ByteArray) : List ByteArray)).bind fun y102 => ((spec_ShareBookOk.f k l0_0 l0_1).bind fun t105 => (if t105 = true then (spec_ShareOrder.l0 k y102 l0_0 l0_1) else (some (y102, false))))
set_option maxHeartbeats 8000000 in
set_option maxRecDepth 100000 in
theorem spec_ShareOrder.calls (k : Nat) (A0_0 : Option Addr) (c0_0 : Nat) (l0_0 : List ByteArray) (A0_1 : Option Addr) (c0_1 : Nat) (l0_1 : List (S56)) (r1 : List ByteArray) (r2 : Bool) (w : World) (hr0_0 : Kd.C Kd.string w A0_0 l0_0.length l0_0) (hc0_0 : l0_0.length ≤ c0_0) (hr0_1 : Kd.C k56 w A0_1 l0_1.length l0_1) (hc0_1 : l0_1.length ≤ c0_1) (h : spec_ShareOrder.f k l0_0 l0_1 = some (r1, r2)) :
  Calls Try.prog 44 #[.agg #[.slice A0_0 l0_0.length c0_0, .slice A0_1 l0_1.length c0_1]] w fun e w' => ∃ v0_ : Value, e = .returned (.tuple #[v0_, .bool r2]) ∧ Kd.R Kd.string 9 w' w.heap.size (fun _ => True) v0_ r1 ∧ Below w.heap.size w w' := by
 have hu31 := Try.underlying31
 have HR0_0 := am hr0_0
 have HC0_0 := am hc0_0
 clear hr0_0 hc0_0
 have HR0_1 := am hr0_1
 have HC0_1 := am hc0_1
 clear hr0_1 hc0_1
 have HB := am (Below.refl w.heap.size w)
 have H : ((some (([] : List ByteArray) : List ByteArray)).bind fun y102 => ((spec_ShareBookOk.f k l0_0 l0_1).bind fun t105 => (if t105 = true then (spec_ShareOrder.l0 k y102 l0_0 l0_1) else (some (y102, false))))) = some (r1, r2) := h
 clear h
 obtain ⟨y102, Ny102, H⟩ := bY H
 obtain ⟨t105, A2, H⟩ := bd H
 by_cases c3 : t105 = true
 ·subst c3
  replace H := iT H
  have H' := am H
  clear H
  go_enter Try.func44, Try.ntmps44
  go_wp2_with (first | (refine bX 1 #[.slice A0_0 l0_0.length c0_0, .slice A0_1 l0_1.length c0_1] 31 ?_; intro gb101 hg w4 hbox hb; have BK101 := am (hbox); have GW101 := am (pY52 : w.heap.size ≤ gb101); have GE101 := am (pY52 : w.heap.size ≤ gb101); replace HB := bS pY55 hb; clear hb hbox hg) | ((with_reducible refine gate_dst (N := 6) rfl ?_); refine Kd.R_lit Kd.string _ 9 ?hg (N := 6) ?hd (xs := ([] : List ByteArray)) (inner := []) (ok := fun _ => True) (okp := fun _ => True) ?hr ?hp (fun _ hk => hk) trivial (Below.refl _ _) (Nat.le_refl _) (by simp) ?_; (case hd => rfl); (case hg => rfl); (case hr => first | (go_simp; done) | (go_simp; rfl)); (case hp => exact (Reps.none _ _)); intro v103 w5 ho6 hb hg_ hnew_; clear hg_ hnew_; (first | rw [← Ny102.out] at ho6 | (simp only [Int.reduceToNat] at ho6; rw [← Ny102.out] at ho6)); have HO104 := am (Kd.R_lower ho6 (below_size (pY53))); replace BK101 := bB pY58 hb; replace HB := bS pY53 hb; clear hb ho6; obtain ⟨hcz7_0, hcz7_1, hfz7_0, hfz7_1⟩ := cz2 BK101) | ((with_reducible refine gate_callee (f := 22) rfl ?_); refine goesL_ (some 8) rfl rfl Try.func22 (by kernel_rfl) rfl #[.agg #[.slice A0_0 l0_0.length c0_0, .slice A0_1 l0_1.length c0_1]] rfl (pY54) ?_; (with_reducible refine (spec_ShareBookOk.calls k _ _ l0_0 _ _ l0_1 true _ ?side1 ?side2 ?side3 ?side4 A2.out).mono ?_); (case side1 => exact pC (Kd.C_below HR0_0.1 HB.1)); (case side2 => exact HC0_0.1); (case side3 => exact pC (Kd.C_below HR0_1.1 HB.1)); (case side4 => exact HC0_1.1); rintro e w8 ⟨rfl, hb⟩; refine ⟨_, rfl, ?_⟩; replace HO104 := am (Kd.R_below (rR HO104.1) hb); replace BK101 := bB pY58 hb; replace HB := bS pY53 hb; (try clear hb); (try clear hb2); (try clear hk); (try clear hi)))
  go_loopg [4] k (fun kq v4 w' => ∃ (x4_1 : List ByteArray), Aside0 (spec_ShareOrder.l0 kq x4_1 l0_0 l0_1 = some (r1, r2)) ∧ Aside0 (kq ≤ k) ∧ Aside0 (Kd.R Kd.string 9 w' w.heap.size (fun _ => True) v4 x4_1) ∧ Aside0 (w'.heap[gb101]? = some (.cells #[(.slice A0_0 l0_0.length c0_0), (.slice A0_1 l0_1.length c0_1)] 31 (0, 0))) ∧ Aside0 (Below w.heap.size w w'))
  case atStart => exact ⟨(y102), H', ⟨Nat.le_refl _⟩, ⟨rR HO104.1⟩, ⟨rB BK101.1⟩, ⟨pY53⟩⟩
  case round =>
   clear H'
   try clear c3
   try clear hcz7_0
   try clear hcz7_1
   try clear hfz7_0
   try clear hfz7_1
   obtain ⟨x4_1, HA, HK1, HO_4, BK101, HB⟩ := hrel
   cases gk with
   | zero => exact absurd HA.out (by simp [spec_ShareOrder.l0])
   | succ k1 =>
    have H := HA.out
    clear HA
    simp only [spec_ShareOrder.l0] at H
    by_cases c9 : (x4_1.length : Int) < (l0_1.length : Int)
    ·rw [if_pos c9] at H
     have c9b0 : decide ((x4_1.length : Int) < (l0_1.length : Int)) = true := decide_eq_true c9
     have c9b1 : decide (x4_1.length < l0_1.length) = true := decide_eq_true (Int.ofNat_lt.mp c9)
     clear c9
     obtain ⟨t106, A10, H⟩ := bd H
     by_cases c11 : t106 < 0
     ·rw [if_pos c11] at H
      have c11b0 : decide (t106 < 0) = true := decide_eq_true c11
      clear c11
      first | (replace H := bZ (([] : List ByteArray)) H; obtain ⟨y107, Ny107, H⟩ := H) | (obtain ⟨y107, Ny107⟩ := yv (([] : List ByteArray)); rw [← Ny107.1] at H)
      simp only [Option.some.injEq, Prod.mk.injEq] at H
      obtain ⟨rfl, rfl⟩ := H
      obtain ⟨Ao12, co12, eo12⟩ := Kd.R_slice HO_4.1
      subst eo12
      obtain ⟨hcz13_0, hcz13_1, hfz13_0, hfz13_1⟩ := cz2 BK101
      go_wp2_with (first | ((with_reducible refine gate_callee (f := 88) rfl ?_); refine goesL_ (some 19) rfl rfl Try.func88 (by kernel_rfl) rfl #[.agg #[.slice A0_0 l0_0.length c0_0, .slice A0_1 l0_1.length c0_1], .slice Ao12 x4_1.length co12] rfl (pY54) ?_; (with_reducible refine (spec_l2Next.calls k1 _ _ l0_0 _ _ l0_1 _ _ x4_1 t106 _ ?side1 ?side2 ?side3 ?side4 ?side5 ?side6 A10.out).mono ?_); (case side1 => exact pC (Kd.C_below HR0_0.1 HB.1)); (case side2 => exact HC0_0.1); (case side3 => exact pC (Kd.C_below HR0_1.1 HB.1)); (case side4 => exact HC0_1.1); (case side5 => exact pC (Kd.R_reads' HO_4.1).2.2); (case side6 => exact (Kd.R_reads' HO_4.1).2.1); rintro e w14 ⟨rfl, hb⟩; refine ⟨_, rfl, ?_⟩; replace HO_4 := am (Kd.R_below (pY78) hb); replace BK101 := bB pY58 hb; replace HB := bS pY53 hb; (try clear hb); (try clear hb2); (try clear hk); (try clear hi)) | ((with_reducible refine gate_dst (N := 22) rfl ?_); refine Kd.R_lit Kd.string _ 9 ?hg (N := 22) ?hd (xs := ([] : List ByteArray)) (inner := []) (ok := fun _ => True) (okp := fun _ => True) ?hr ?hp (fun _ hk => hk) trivial (Below.refl _ _) (Nat.le_refl _) (by simp) ?_; (case hd => rfl); (case hg => rfl); (case hr => first | (go_simp; done) | (go_simp; rfl)); (case hp => exact (Reps.none _ _)); intro v108 w15 ho16 hb hg_ hnew_; clear hg_ hnew_; (first | rw [← Ny107.out] at ho16 | (simp only [Int.reduceToNat] at ho16; rw [← Ny107.out] at ho16)); have HO109 := am (Kd.R_lower (Kd.R_new' ho16 (Kd.R_lt (pY78))) (below_size (pY53))); replace HO_4 := am (Kd.R_elder' (pY78) (Kd.R_base ho16) hb); replace BK101 := bB pY58 hb; replace HB := bS pY53 hb; clear hb ho16))
      go_ret2
      exact ⟨_, by first | rfl | (simp [errW_none, errW_some] <;> rfl) | (simp [*, errW_none, errW_some] <;> rfl), by refine rR ?_; exact Kd.R_mono HO109.1 (fun _ hk => trivial), pY53⟩
     ·rw [if_neg c11] at H
      have c11b0 : decide (t106 < 0) = false := decide_eq_false c11
      clear c11
      by_cases c17 : 0 ≤ t106
      ·rw [if_pos c17] at H
       have c17b0 : decide (0 ≤ t106) = true := decide_eq_true c17
       clear c17
       by_cases c18 : t106 < (l0_1.length : Int)
       ·rw [if_pos c18] at H
        have c18b0 : decide (t106 < (l0_1.length : Int)) = true := decide_eq_true c18
        clear c18
        by_cases c19 : x4_1.length < 8796093022208
        ·rw [if_pos c19] at H
         have LMc19 := am c19
         clear c19
         first | (replace H := bZ (x4_1 ++ [(rd_T56 l0_1 t106).f0]) H; obtain ⟨y111, Ny111, H⟩ := H) | (obtain ⟨y111, Ny111⟩ := yv (x4_1 ++ [(rd_T56 l0_1 t106).f0]); rw [← Ny111.1] at H)
         have H' := am H
         clear H
         obtain ⟨Ao20, co20, eo20⟩ := Kd.R_slice HO_4.1
         subst eo20
         obtain ⟨hcz21_0, hcz21_1, hfz21_0, hfz21_1⟩ := cz2 BK101
         go_wp2_with (first | ((with_reducible refine gate_callee (f := 88) rfl ?_); refine goesL_ (some 19) rfl rfl Try.func88 (by kernel_rfl) rfl #[.agg #[.slice A0_0 l0_0.length c0_0, .slice A0_1 l0_1.length c0_1], .slice Ao20 x4_1.length co20] rfl (pY54) ?_; (with_reducible refine (spec_l2Next.calls k1 _ _ l0_0 _ _ l0_1 _ _ x4_1 t106 _ ?side1 ?side2 ?side3 ?side4 ?side5 ?side6 A10.out).mono ?_); (case side1 => exact pC (Kd.C_below HR0_0.1 HB.1)); (case side2 => exact HC0_0.1); (case side3 => exact pC (Kd.C_below HR0_1.1 HB.1)); (case side4 => exact HC0_1.1); (case side5 => exact pC (Kd.R_reads' HO_4.1).2.2); (case side6 => exact (Kd.R_reads' HO_4.1).2.1); rintro e w22 ⟨rfl, hb⟩; refine ⟨_, rfl, ?_⟩; replace HO_4 := am (Kd.R_below (pY78) hb); replace BK101 := bB pY58 hb; replace HB := bS pY53 hb; (try clear hb); (try clear hb2); (try clear hk); (try clear hi); obtain ⟨hcz23_0, hcz23_1, hfz23_0, hfz23_1⟩ := cz2 BK101; have p110 : 0 ≤ (t106 : Int) := of_decide_eq_true (pY82); have q110 : t106 < (l0_1.length : Int) := of_decide_eq_true (pY82); obtain ⟨ad110, A110_1, c110_1, A110_2, c110_2, e110, hx110_0, hx110_1, hx110_2, hl110_1, hi110_1, hl110_2, hi110_2⟩ := at_T56 HR0_1.1 t106 p110 q110; cases e110; replace hx110_0 := hX HB hx110_0; replace hx110_1 := hX HB hx110_1; replace hx110_2 := hX HB hx110_2; have HR110_1 := am hi110_1; have HC110_1 := am hl110_1; clear hi110_1 hl110_1; have HR110_2 := am hi110_2; have HC110_2 := am hl110_2; clear hi110_2 hl110_2; replace p110 := eq_true p110; replace q110 := eq_true q110) | ((with_reducible refine gate_builtin (b := .append) (xs := #[.tmp 23, .tmp 30]) rfl ?_); at_builtin; refine Kd.R_append Kd.string (w0 := w) w.heap.size rfl (.tmp 23) (.tmp 30) 23 9 (.string ⟨#[]⟩) 16 rfl Try.underlying23 info9 rfl (by decide) (by omega) (.slice Ao20 x4_1.length co20) x4_1 ((rd_T56 l0_1 t106).f0) [.string ((rd_T56 l0_1 t106).f0)] (fun _ => True) (fun _ => False) rfl rfl ?aP (fun _ hk => hk.elim) ?aF ?aO ?aB ?aS ?aL ?_; (case aP => exact rfl); (case aB => exact (pY53)); (case aF => exact (fun _ _ => trivial)); (case aO => exact (pY78)); (case aS => exact (below_size (pY53))); (case aL => have := LMc19.out; omega); intro v112 w24 ho hb hg hat; rw [← Ny111.out] at ho; replace BK101 := am (blk_grown (g := gb101) (o := .cells #[.slice A0_0 l0_0.length c0_0, .slice (some ad110) l0_1.length c0_1] 31 (0, 0)) (pY58) hg (Kd.R_ne HO_4.1 BK101.1 (by decide))); replace HB := am (hb); have HO113 := am (ho); clear HO_4; clear ho hb hg hat))
         go_roundg k1
         case measure => have := HK1.out; omega
         case rel => exact ⟨(y111), H', ⟨by have := HK1.out; omega⟩, ⟨rR HO113.1⟩, ⟨rB BK101.1⟩, ⟨pY53⟩⟩
        ·rw [if_neg c19] at H
         exact absurd H (by simp)
       ·rw [if_neg c18] at H
        exact absurd H (by simp)
      ·rw [if_neg c17] at H
       exact absurd H (by simp)
    ·rw [if_neg c9] at H
     have c9b0 : decide ((x4_1.length : Int) < (l0_1.length : Int)) = false := decide_eq_false c9
     have c9b1 : decide (x4_1.length < l0_1.length) = false := decide_eq_false (fun h => c9 (Int.ofNat_lt.mpr h))
     clear c9
     simp only [Option.some.injEq, Prod.mk.injEq] at H
     obtain ⟨rfl, rfl⟩ := H
     obtain ⟨Ao25, co25, eo25⟩ := Kd.R_slice HO_4.1
     subst eo25
     obtain ⟨hcz26_0, hcz26_1, hfz26_0, hfz26_1⟩ := cz2 BK101
     go_wp2
     go_ret2
     exact ⟨_, by first | rfl | (simp [errW_none, errW_some] <;> rfl) | (simp [*, errW_none, errW_some] <;> rfl), rR HO_4.1, pY53⟩
 ·replace c3 := Bool.eq_false_iff.mpr c3
  subst c3
  replace H := iF H
  simp only [Option.some.injEq, Prod.mk.injEq] at H
  obtain ⟨rfl, rfl⟩ := H
  go_enter Try.func44, Try.ntmps44
  go_wp2_with (first | (refine bX 1 #[.slice A0_0 l0_0.length c0_0, .slice A0_1 l0_1.length c0_1] 31 ?_; intro gb101 hg w27 hbox hb; have BK101 := am (hbox); have GW101 := am (pY52 : w.heap.size ≤ gb101); have GE101 := am (pY52 : w.heap.size ≤ gb101); replace HB := bS pY55 hb; clear hb hbox hg) | ((with_reducible refine gate_dst (N := 6) rfl ?_); refine Kd.R_lit Kd.string _ 9 ?hg (N := 6) ?hd (xs := ([] : List ByteArray)) (inner := []) (ok := fun _ => True) (okp := fun _ => True) ?hr ?hp (fun _ hk => hk) trivial (Below.refl _ _) (Nat.le_refl _) (by simp) ?_; (case hd => rfl); (case hg => rfl); (case hr => first | (go_simp; done) | (go_simp; rfl)); (case hp => exact (Reps.none _ _)); intro v103 w28 ho29 hb hg_ hnew_; clear hg_ hnew_; (first | rw [← Ny102.out] at ho29 | (simp only [Int.reduceToNat] at ho29; rw [← Ny102.out] at ho29)); have HO104 := am (Kd.R_lower ho29 (below_size (pY53))); replace BK101 := bB pY58 hb; replace HB := bS pY53 hb; clear hb ho29; obtain ⟨hcz30_0, hcz30_1, hfz30_0, hfz30_1⟩ := cz2 BK101) | ((with_reducible refine gate_callee (f := 22) rfl ?_); refine goesL_ (some 8) rfl rfl Try.func22 (by kernel_rfl) rfl #[.agg #[.slice A0_0 l0_0.length c0_0, .slice A0_1 l0_1.length c0_1]] rfl (pY54) ?_; (with_reducible refine (spec_ShareBookOk.calls k _ _ l0_0 _ _ l0_1 false _ ?side1 ?side2 ?side3 ?side4 A2.out).mono ?_); (case side1 => exact pC (Kd.C_below HR0_0.1 HB.1)); (case side2 => exact HC0_0.1); (case side3 => exact pC (Kd.C_below HR0_1.1 HB.1)); (case side4 => exact HC0_1.1); rintro e w31 ⟨rfl, hb⟩; refine ⟨_, rfl, ?_⟩; replace HO104 := am (Kd.R_below (rR HO104.1) hb); replace BK101 := bB pY58 hb; replace HB := bS pY53 hb; (try clear hb); (try clear hb2); (try clear hk); (try clear hi)))
  go_ret2
  exact ⟨_, by first | rfl | (simp [errW_none, errW_some] <;> rfl) | (simp [*, errW_none, errW_some] <;> rfl), rR HO104.1, pY53⟩
end Go.Proofs.Ytaofjgnhapnndaa.Q
namespace Go.Proofs.Ytaofjgnhapnndaa.Q
open Go.RowKit Go.Proofs.YtaofjgnhapnndaaW.PrintWords Go.Proofs.YtaofjgnhapnndaaW.PrintLast Go.Proofs.YtaofjgnhapnndaaW.PrintMore
set_option linter.unusedVariables false
set_option linter.unusedSimpArgs false
def spec_ShareSafe.f (k : Nat) (l0_0 : List ByteArray) (l0_1 : List (S56)) : Option (Bool) := (spec_ShareOrder.f k l0_0 l0_1).bind fun bt102 => (some bt102.2)
set_option maxHeartbeats 8000000 in
set_option maxRecDepth 100000 in
theorem spec_ShareSafe.calls (k : Nat) (A0_0 : Option Addr) (c0_0 : Nat) (l0_0 : List ByteArray) (A0_1 : Option Addr) (c0_1 : Nat) (l0_1 : List (S56)) (r : Bool) (w : World) (hr0_0 : Kd.C Kd.string w A0_0 l0_0.length l0_0) (hc0_0 : l0_0.length ≤ c0_0) (hr0_1 : Kd.C k56 w A0_1 l0_1.length l0_1) (hc0_1 : l0_1.length ≤ c0_1) (h : spec_ShareSafe.f k l0_0 l0_1 = some r) :
  Calls Try.prog 35 #[.agg #[.slice A0_0 l0_0.length c0_0, .slice A0_1 l0_1.length c0_1]] w fun e w' => e = .returned (.bool r) ∧ Below w.heap.size w w' := by
 have hu31 := Try.underlying31
 have HR0_0 := am hr0_0
 have HC0_0 := am hc0_0
 clear hr0_0 hc0_0
 have HR0_1 := am hr0_1
 have HC0_1 := am hc0_1
 clear hr0_1 hc0_1
 have HB := am (Below.refl w.heap.size w)
 have H : ((spec_ShareOrder.f k l0_0 l0_1).bind fun bt102 => (some bt102.2)) = some r := h
 clear h
 obtain ⟨⟨t102, t105⟩, A2, H⟩ := bd H
 dsimp only at H
 obtain rfl := Option.some.inj H
 go_enter Try.func35, Try.ntmps35
 go_wp2_with (first | (refine bX 1 #[.slice A0_0 l0_0.length c0_0, .slice A0_1 l0_1.length c0_1] 31 ?_; intro gb101 hg w3 hbox hb; have BK101 := am (hbox); have GW101 := am (pY52 : w.heap.size ≤ gb101); have GE101 := am (pY52 : w.heap.size ≤ gb101); replace HB := bS pY55 hb; clear hb hbox hg; obtain ⟨hcz4_0, hcz4_1, hfz4_0, hfz4_1⟩ := cz2 BK101) | ((with_reducible refine gate_callee (f := 44) rfl ?_); refine goesL_ (some 7) rfl rfl Try.func44 (by kernel_rfl) rfl #[.agg #[.slice A0_0 l0_0.length c0_0, .slice A0_1 l0_1.length c0_1]] rfl (pY54) ?_; (with_reducible refine (spec_ShareOrder.calls k _ _ l0_0 _ _ l0_1 t102 t105 _ ?side1 ?side2 ?side3 ?side4 A2.out).mono ?_); (case side1 => exact pC (Kd.C_below HR0_0.1 HB.1)); (case side2 => exact HC0_0.1); (case side3 => exact pC (Kd.C_below HR0_1.1 HB.1)); (case side4 => exact HC0_1.1); rintro e w5 ⟨v103, rfl, ho0, hb⟩; refine ⟨_, rfl, ?_⟩; have HO104 := am (Kd.R_lower ho0 (below_size (pY53))); replace BK101 := bB pY58 hb; replace HB := bS pY53 hb; (try clear hb); (try clear hb2); (try clear hk); (try clear hi); (try clear ho0)))
 go_ret
 exact ⟨by first | rfl | (simp [errW_none, errW_some] <;> rfl) | (simp [*, errW_none, errW_some] <;> rfl), pY53⟩
end Go.Proofs.Ytaofjgnhapnndaa.Q
namespace Go.Proofs.Ytaofjgnhapnndaa.Q
open Go.RowKit Go.Proofs.YtaofjgnhapnndaaW.PrintWords Go.Proofs.YtaofjgnhapnndaaW.PrintLast Go.Proofs.YtaofjgnhapnndaaW.PrintMore
set_option linter.unusedVariables false
set_option linter.unusedSimpArgs false
def spec_l1At.l0 : Nat → ByteArray → Int → List ByteArray → List (S56) → Option (Int)
 | 0, _, _, _, _ => none
 | k + 1, x1, x5, x102000, x102001 => if x5 < (x102001.length : Int) then (if 0 ≤ x5 then (if ((rd_T56 x102001 x5).f0).toList = x1.toList then (some x5) else (spec_l1At.l0 k x1 (wrap64 (x5 + 1)) x102000 x102001)) else (none)) else (some (-1))
def spec_l1At.f (k : Nat) (l0_0 : List ByteArray) (l0_1 : List (S56)) (a1 : ByteArray) : Option (Int) := spec_l1At.l0 k a1 0 l0_0 l0_1
set_option maxHeartbeats 8000000 in
set_option maxRecDepth 100000 in
theorem spec_l1At.calls (k : Nat) (A0_0 : Option Addr) (c0_0 : Nat) (l0_0 : List ByteArray) (A0_1 : Option Addr) (c0_1 : Nat) (l0_1 : List (S56)) (a1 : ByteArray) (r : Int) (w : World) (hr0_0 : Kd.C Kd.string w A0_0 l0_0.length l0_0) (hc0_0 : l0_0.length ≤ c0_0) (hr0_1 : Kd.C k56 w A0_1 l0_1.length l0_1) (hc0_1 : l0_1.length ≤ c0_1) (h : spec_l1At.f k l0_0 l0_1 a1 = some r) :
  Calls Try.prog 82 #[.agg #[.slice A0_0 l0_0.length c0_0, .slice A0_1 l0_1.length c0_1], .string a1] w fun e w' => e = .returned (.int .i64 r) ∧ Below w.heap.size w w' := by
 have hu31 := Try.underlying31
 have HR0_0 := am hr0_0
 have HC0_0 := am hc0_0
 clear hr0_0 hc0_0
 have HR0_1 := am hr0_1
 have HC0_1 := am hc0_1
 clear hr0_1 hc0_1
 have HB := am (Below.refl w.heap.size w)
 have H : (spec_l1At.l0 k a1 0 l0_0 l0_1) = some r := h
 clear h
 have H' := am H
 clear H
 go_enter Try.func82, Try.ntmps82
 go_wp2_with (first | (refine bX 2 #[.slice A0_0 l0_0.length c0_0, .slice A0_1 l0_1.length c0_1] 31 ?_; intro gb101 hg w3 hbox hb; have BK101 := am (hbox); have GW101 := am (pY52 : w.heap.size ≤ gb101); have GE101 := am (pY52 : w.heap.size ≤ gb101); replace HB := bS pY55 hb; clear hb hbox hg))
 go_loopg [5] k (fun kq v5 w' => ∃ (x5_1 : Int), v5 = .int .i64 x5_1 ∧ Aside0 (spec_l1At.l0 kq a1 x5_1 l0_0 l0_1 = some r) ∧ Aside0 (kq ≤ k) ∧ Aside0 (w'.heap[gb101]? = some (.cells #[(.slice A0_0 l0_0.length c0_0), (.slice A0_1 l0_1.length c0_1)] 31 (0, 0))) ∧ Aside0 (Below w.heap.size w w'))
 case atStart => exact ⟨(0), (pY83), H', ⟨Nat.le_refl _⟩, ⟨rB BK101.1⟩, ⟨pY53⟩⟩
 case round =>
  clear H'
  obtain ⟨x5_1, rfl, HA, HK1, BK101, HB⟩ := hrel
  cases gk with
  | zero => exact absurd HA.out (by simp [spec_l1At.l0])
  | succ k1 =>
   have H := HA.out
   clear HA
   simp only [spec_l1At.l0] at H
   by_cases c4 : x5_1 < (l0_1.length : Int)
   ·rw [if_pos c4] at H
    have c4b0 : decide (x5_1 < (l0_1.length : Int)) = true := decide_eq_true c4
    clear c4
    by_cases c5 : 0 ≤ x5_1
    ·rw [if_pos c5] at H
     have c5b0 : decide (0 ≤ x5_1) = true := decide_eq_true c5
     clear c5
     by_cases c6 : ((rd_T56 l0_1 x5_1).f0).toList = a1.toList
     ·rw [if_pos c6] at H
      have c6b0 : (((rd_T56 l0_1 x5_1).f0).toList == a1.toList) = true := beq_iff_eq.mpr c6
      have c6b1 : (((rd_T56 l0_1 x5_1).f0).toList != a1.toList) = false := bne_eq_false_iff_eq.mpr c6
      clear c6
      obtain rfl := Option.some.inj H
      obtain ⟨hcz7_0, hcz7_1, hfz7_0, hfz7_1⟩ := cz2 BK101
      have p102 : 0 ≤ (x5_1 : Int) := of_decide_eq_true (pY82)
      have q102 : x5_1 < (l0_1.length : Int) := of_decide_eq_true (pY82)
      obtain ⟨ad102, A102_1, c102_1, A102_2, c102_2, e102, hx102_0, hx102_1, hx102_2, hl102_1, hi102_1, hl102_2, hi102_2⟩ := at_T56 HR0_1.1 x5_1 p102 q102
      cases e102
      replace hx102_0 := hX HB hx102_0
      replace hx102_1 := hX HB hx102_1
      replace hx102_2 := hX HB hx102_2
      have HR102_1 := am hi102_1
      have HC102_1 := am hl102_1
      clear hi102_1 hl102_1
      have HR102_2 := am hi102_2
      have HC102_2 := am hl102_2
      clear hi102_2 hl102_2
      replace p102 := eq_true p102
      replace q102 := eq_true q102
      go_wp2
      go_ret
      exact ⟨by first | rfl | (simp [errW_none, errW_some] <;> rfl) | (simp [*, errW_none, errW_some] <;> rfl), pY53⟩
     ·rw [if_neg c6] at H
      have c6b0 : (((rd_T56 l0_1 x5_1).f0).toList == a1.toList) = false := beq_eq_false_iff_ne.mpr c6
      have c6b1 : (((rd_T56 l0_1 x5_1).f0).toList != a1.toList) = true := bne_iff_ne.mpr c6
      have H' := am H
      clear H
      obtain ⟨hcz8_0, hcz8_1, hfz8_0, hfz8_1⟩ := cz2 BK101
      have p102 : 0 ≤ (x5_1 : Int) := of_decide_eq_true (pY82)
      have q102 : x5_1 < (l0_1.length : Int) := of_decide_eq_true (pY82)
      obtain ⟨ad102, A102_1, c102_1, A102_2, c102_2, e102, hx102_0, hx102_1, hx102_2, hl102_1, hi102_1, hl102_2, hi102_2⟩ := at_T56 HR0_1.1 x5_1 p102 q102
      cases e102
      replace hx102_0 := hX HB hx102_0
      replace hx102_1 := hX HB hx102_1
      replace hx102_2 := hX HB hx102_2
      have HR102_1 := am hi102_1
      have HC102_1 := am hl102_1
      clear hi102_1 hl102_1
      have HR102_2 := am hi102_2
      have HC102_2 := am hl102_2
      clear hi102_2 hl102_2
      replace p102 := eq_true p102
      replace q102 := eq_true q102
      go_wp2
      go_roundg k1
      case measure => have := HK1.out; omega
      case rel => exact ⟨(wrap64 (x5_1 + 1)), (pY83), H', ⟨by have := HK1.out; omega⟩, ⟨rB BK101.1⟩, ⟨pY53⟩⟩
    ·rw [if_neg c5] at H
     exact absurd H (by simp)
   ·rw [if_neg c4] at H
    have c4b0 : decide (x5_1 < (l0_1.length : Int)) = false := decide_eq_false c4
    clear c4
    obtain rfl := Option.some.inj H
    obtain ⟨hcz9_0, hcz9_1, hfz9_0, hfz9_1⟩ := cz2 BK101
    go_wp2
    go_ret
    exact ⟨by first | rfl | (simp [errW_none, errW_some] <;> rfl) | (simp [*, errW_none, errW_some] <;> rfl), pY53⟩
end Go.Proofs.Ytaofjgnhapnndaa.Q
namespace Go.Proofs.Ytaofjgnhapnndaa.Q
open Go.RowKit Go.Proofs.YtaofjgnhapnndaaW.PrintWords Go.Proofs.YtaofjgnhapnndaaW.PrintLast Go.Proofs.YtaofjgnhapnndaaW.PrintMore
set_option linter.unusedVariables false
set_option linter.unusedSimpArgs false
def spec_l1Names.f (l0 : List ByteArray) : Option (List ByteArray) := (some (([] : List ByteArray) : List ByteArray)).bind fun y101 => (if y101.length + l0.length < 8796093022208 then (some (y101 ++ l0)) else (none))
set_option maxHeartbeats 8000000 in
set_option maxRecDepth 100000 in
theorem spec_l1Names.calls (A0 : Option Addr) (c0 : Nat) (l0 : List ByteArray) (r : List ByteArray) (w : World) (hr0 : Kd.C Kd.string w A0 l0.length l0) (hc0 : l0.length ≤ c0) (h : spec_l1Names.f l0 = some r) :
  Calls Try.prog 93 #[.slice A0 l0.length c0] w fun e w' => ∃ v0_ : Value, e = .returned (v0_) ∧ Kd.R Kd.string 9 w' w.heap.size (fun _ => True) v0_ r ∧ Below w.heap.size w w' := by
 have HR0 := am hr0
 have HC0 := am hc0
 clear hr0 hc0
 have HB := am (Below.refl w.heap.size w)
 have H : ((some (([] : List ByteArray) : List ByteArray)).bind fun y101 => (if y101.length + l0.length < 8796093022208 then (some (y101 ++ l0)) else (none))) = some r := h
 clear h
 obtain ⟨y101, Ny101, H⟩ := bY H
 by_cases c2 : y101.length + l0.length < 8796093022208
 ·rw [if_pos c2] at H
  have LMc2 := am c2
  clear c2
  first | (replace H := bZ (y101 ++ l0) H; obtain ⟨y104, Ny104, H⟩ := H) | (obtain ⟨y104, Ny104⟩ := yv (y101 ++ l0); rw [← Ny104.1] at H)
  obtain rfl := Option.some.inj H
  go_enter Try.func93, Try.ntmps93
  go_wp2_with (first | ((with_reducible refine gate_dst (N := 3) rfl ?_); refine Kd.R_lit Kd.string _ 9 ?hg (N := 3) ?hd (xs := ([] : List ByteArray)) (inner := []) (ok := fun _ => True) (okp := fun _ => True) ?hr ?hp (fun _ hk => hk) trivial (Below.refl _ _) (Nat.le_refl _) (by simp) ?_; (case hd => rfl); (case hg => rfl); (case hr => first | (go_simp; done) | (go_simp; rfl)); (case hp => exact (Reps.none _ _)); intro v102 w3 ho4 hb hg_ hnew_; clear hg_ hnew_; (first | rw [← Ny101.out] at ho4 | (simp only [Int.reduceToNat] at ho4; rw [← Ny101.out] at ho4)); have HO103 := am (Kd.R_lower ho4 (below_size (pY55))); replace HB := bS pY55 hb; clear hb ho4) | ((with_reducible refine gate_builtin (b := .append) (xs := #[.tmp 3, .tmp 4]) rfl ?_); at_builtin; refine Kd.R_append_rows Kd.string (w0 := w) w.heap.size rfl (.tmp 3) (.tmp 4) 23 9 (.string ⟨#[]⟩) 16 rfl Try.underlying23 info9 rfl (by decide) (by omega) v102 y101 l0 _ _ _ (fun _ => True) (fun _ => False) rfl rfl ?aO ?aR (fun _ _ h => h) (fun _ h => h.elim) ?aF ?aB ?aS ?aL ?_; (case aR => repeat (first | exact (Kd.C_below HR0.1 HB.1) | (with_reducible refine Kd.C_alloc ?_ _) | (with_reducible refine Kd.C_drewN ?_ _) | (with_reducible refine Kd.C_drew ?_))); (case aB => exact (pY55)); (case aF => exact (fun _ _ => trivial)); (case aO => exact (rR HO103.1)); (case aS => exact (below_size (pY55))); (case aL => have := LMc2.out; omega); intro v105 w5 ho hb hg hat; rw [← Ny104.out] at ho; replace HB := am (hb); have HO106 := am (ho); clear HO103; clear ho hb hg hat))
  go_ret
  exact ⟨_, by first | rfl | (simp [errW_none, errW_some] <;> rfl) | (simp [*, errW_none, errW_some] <;> rfl), rR HO106.1, pY55⟩
 ·rw [if_neg c2] at H
  exact absurd H (by simp)
end Go.Proofs.Ytaofjgnhapnndaa.Q
namespace Go.Proofs.Ytaofjgnhapnndaa.Q
open Go.RowKit Go.Proofs.YtaofjgnhapnndaaW.PrintWords Go.Proofs.YtaofjgnhapnndaaW.PrintLast Go.Proofs.YtaofjgnhapnndaaW.PrintMore
set_option linter.unusedVariables false
set_option linter.unusedSimpArgs false
def spec_l1Copy.l0 : Nat → Int → List ByteArray → List (S56) → List ByteArray → List (S56) → Option (List ByteArray × (List (S56)))
 | 0, _, _, _, _, _ => none
 | k + 1, x4, x102000, x102001, x107000, x107001 => if x4 < (x102001.length : Int) then (if 0 ≤ x4 then ((spec_l1Names.f ((rd_T56 x102001 x4).f1)).bind fun t109 => ((spec_l1Names.f ((rd_T56 x102001 x4).f2)).bind fun t113 => (if x107001.length < 2199023255552 then (spec_l1Copy.l0 k (wrap64 (x4 + 1)) x102000 x102001 x107000 (x107001 ++ [(⟨(rd_T56 x102001 x4).f0, t109, t113⟩ : S56)])) else (none)))) else (none)) else (some (x107000, x107001))
def spec_l1Copy.f (k : Nat) (l0_0 : List ByteArray) (l0_1 : List (S56)) : Option (List ByteArray × (List (S56))) := (spec_l1Names.f l0_0).bind fun t103 => (spec_l1Copy.l0 k 0 l0_0 l0_1 t103 ([] : List (S56)))
def spec_l1Copy.T5 : Bool × List (List Nat × List Nat) := (true, [([], []), ([0], [0]), ([], []), ([2], [2]), ([], []), ([3, 4], [3, 4]), ([5], [5]), ([6], [6]), ([], []), ([8], [8]), ([], []), ([9, 10], [9, 10]), ([11], [11]), ([12], [12]), ([13], [13]), ([], []), ([15], [15]), ([], []), ([16, 17], [16, 17]), ([18], [18]), ([19], [19]), ([20, 14], [20]), ([7, 14, 21], [7, 14, 21]), ([22], [22]), ([1, 23, 21], [1, 23]), ([0, 1, 2, 3, 4, 5, 6, 7, 8, 9, 10, 11, 12, 13, 14, 15, 16, 17, 18, 19, 20, 21, 22, 23, 24], []), ([25, 24, 24, 0, 1, 2, 3, 4, 5, 6, 7, 8, 9, 10, 11, 12, 13, 14, 15, 16, 17, 18, 19, 20, 21, 22, 23, 24], [24, 25])])
def spec_l1Copy.B5 : List Nat := [0, 1, 0, 4, 0, 28, 60, 124, 0, 256, 0, 1792, 3840, 7936, 16128, 0, 32768, 0, 229376, 491520, 1015808, 2096896, 4194300, 8388604, 16777215, 33554431, 67108863]
theorem spec_l1Copy.tab5 : rtab .any (opsOf Try.f89 5) = spec_l1Copy.T5 := by kernel_rfl
theorem spec_l1Copy.bits5 : waitsOk spec_l1Copy.T5.2 spec_l1Copy.B5 = true := by kernel_rfl
set_option maxHeartbeats 8000000 in
set_option maxRecDepth 100000 in
theorem spec_l1Copy.calls (k : Nat) (A0_0 : Option Addr) (c0_0 : Nat) (l0_0 : List ByteArray) (A0_1 : Option Addr) (c0_1 : Nat) (l0_1 : List (S56)) (r1 : List ByteArray) (r2 : List (S56)) (w : World) (hr0_0 : Kd.C Kd.string w A0_0 l0_0.length l0_0) (hc0_0 : l0_0.length ≤ c0_0) (hr0_1 : Kd.C k56 w A0_1 l0_1.length l0_1) (hc0_1 : l0_1.length ≤ c0_1) (h : spec_l1Copy.f k l0_0 l0_1 = some (r1, r2)) :
  Calls Try.prog 89 #[.agg #[.slice A0_0 l0_0.length c0_0, .slice A0_1 l0_1.length c0_1]] w fun e w' => ∃ v0_ v1_ : Value, e = .returned (.agg #[v0_, v1_]) ∧ Kd.R Kd.string 9 w' w.heap.size (fun _ => True) v0_ r1 ∧ Kd.S k56 56 w' w.heap.size (fun k_ => some k_ ≠ (v0_ : Value).ownBlock) v1_ r2 ∧ Below w.heap.size w w' := by
 have hu31 := Try.underlying31
 have hu56 := Try.underlying56
 have HR0_0 := am hr0_0
 have HC0_0 := am hc0_0
 clear hr0_0 hc0_0
 have HR0_1 := am hr0_1
 have HC0_1 := am hc0_1
 clear hr0_1 hc0_1
 have HB := am (Below.refl w.heap.size w)
 have H : ((spec_l1Names.f l0_0).bind fun t103 => (spec_l1Copy.l0 k 0 l0_0 l0_1 t103 ([] : List (S56)))) = some (r1, r2) := h
 clear h
 obtain ⟨t103, A2, H⟩ := bd H
 have H' := am H
 clear H
 go_enter Try.func89, Try.ntmps89
 go_wp2_with (first | (refine bX 1 #[.slice A0_0 l0_0.length c0_0, .slice A0_1 l0_1.length c0_1] 31 ?_; intro gb101 hg w3 hbox hb; have BK101 := am (hbox); have GW101 := am (pY52 : w.heap.size ≤ gb101); have GE101 := am (pY52 : w.heap.size ≤ gb101); replace HB := bS pY55 hb; clear hb hbox hg) | (refine bX 2 #[.slice none 0 0, .slice none 0 0] 31 ?_; intro gb102 hg w4 hbox hb; have BK102 := am (hbox); have GW102 := am (pY45 : w.heap.size ≤ gb102); have GE102 := am (pY45 : w.heap.size ≤ gb102); replace HB := bS pY53 hb; have NB101_102 := nL pY58 hg; have NB102_101 := nG pY58 hg; replace BK101 := bB pY58 hb; clear hb hbox hg; have hnb5 := NB101_102.1; have hnc5 := NB102_101.1; obtain ⟨hcz6_0, hcz6_1, hfz6_0, hfz6_1⟩ := cz2 BK101) | ((with_reducible refine gate_callee (f := 93) rfl ?_); refine goesL_ (some 7) rfl rfl Try.func93 (by kernel_rfl) rfl #[.slice A0_0 l0_0.length c0_0] rfl (pY54) ?_; (with_reducible refine (spec_l1Names.calls _ _ l0_0 t103 _ ?side1 ?side2 A2.out).mono ?_); (case side1 => exact pC (Kd.C_below HR0_0.1 HB.1)); (case side2 => exact HC0_0.1); rintro e w7 ⟨v104, rfl, ho0, hb⟩; refine ⟨_, rfl, ?_⟩; have HO105 := am (Kd.R_lower ho0 (below_size (pY46))); replace BK101 := bB pY58 hb; replace BK102 := bB pY59 hb; replace HB := bS pY46 hb; (try clear hb); (try clear hb2); (try clear hk); (try clear hi); (try clear ho0); obtain ⟨Ao8, co8, eo8⟩ := Kd.R_slice HO105.1; subst eo8) | (refine bX 3 #[.slice none 0 0, .slice none 0 0] 31 ?_; intro gb106 hg w9 hbox hb; replace HO105 := am (Kd.R_below (rR HO105.1) hb); have BK106 := am (hbox); have GW106 := am (pY39 : w.heap.size ≤ gb106); have GE106 := am (pY39 : w.heap.size ≤ gb106); replace HB := bS pY46 hb; have NB101_106 := nL pY58 hg; have NB106_101 := nG pY58 hg; replace BK101 := bB pY58 hb; have NB102_106 := nL pY59 hg; have NB106_102 := nG pY59 hg; replace BK102 := bB pY59 hb; clear hb hbox hg; have hnb10 := NB106_101.1; have hnc10 := NB101_106.1; have hnb11 := NB106_102.1; have hnc11 := NB102_106.1; obtain ⟨hcz12_0, hcz12_1, hfz12_0, hfz12_1⟩ := cz2 BK106))
 go_loopg [4] k (fun kq v4 w' => ∃ (x4_1 : Int) (x107001_1 : List (S56)) (u107001 : Value), v4 = .int .i64 x4_1 ∧ Aside0 (spec_l1Copy.l0 kq x4_1 l0_0 l0_1 t103 x107001_1 = some (r1, r2)) ∧ Aside0 (kq ≤ k) ∧ Aside0 (Kd.R Kd.string 9 w' w.heap.size (fun _ => True) (.slice Ao8 t103.length co8) t103) ∧ Aside0 (Kd.S k56 56 w' w.heap.size (fun k_ => some k_ ≠ ((.slice Ao8 t103.length co8) : Value).ownBlock) u107001 x107001_1) ∧ Aside0 (w'.heap[gb101]? = some (.cells #[(.slice A0_0 l0_0.length c0_0), (.slice A0_1 l0_1.length c0_1)] 31 (0, 0))) ∧ Aside0 (w'.heap[gb102]? = some (.cells #[(.slice none 0 0), (.slice none 0 0)] 31 (0, 0))) ∧ Aside0 (w'.heap[gb106]? = some (.cells #[(.slice Ao8 t103.length co8), u107001] 31 (0, 0))) ∧ Aside0 (Below w.heap.size w w'))
 case atStart => exact ⟨(0), (([] : List (S56))), (.slice none 0 0), (pY83), H', ⟨Nat.le_refl _⟩, ⟨by refine rR ?_; exact Kd.R_mono (Kd.R_far (p := ⟨gb106, 1, none⟩) (Kd.R_far (p := ⟨gb106, 0, none⟩) (Kd.R_types HO105.1 BK106.1 (by decide)) (fun _ hk => hk.2) (.slice Ao8 t103.length co8)) (fun _ hk => hk.2) (.slice none 0 0)) (fun _ hk => trivial)⟩, ⟨by first | exact Kd.S_nil _ _ _ _ _ | exact Kd.N_nil _ _ _ _ _ | exact Kd.V_nil _ _ _ _ _ | exact Kd.Q_nil _ _ _ _ _ | exact Kd.R_nil _ _ _ _ _⟩, ⟨by (with_reducible repeat (first | refine blk_drewN ?_ _ | refine blk_drew ?_ | refine blk_alloc ?_ _)); refine blk_far ?_ NB101_106.1 _; (with_reducible repeat (first | refine blk_drewN ?_ _ | refine blk_drew ?_ | refine blk_alloc ?_ _)); refine blk_far ?_ NB101_106.1 _; (with_reducible repeat (first | refine blk_drewN ?_ _ | refine blk_drew ?_ | refine blk_alloc ?_ _)); exact BK101.1⟩, ⟨by (with_reducible repeat (first | refine blk_drewN ?_ _ | refine blk_drew ?_ | refine blk_alloc ?_ _)); refine blk_far ?_ NB102_106.1 _; (with_reducible repeat (first | refine blk_drewN ?_ _ | refine blk_drew ?_ | refine blk_alloc ?_ _)); refine blk_far ?_ NB102_106.1 _; (with_reducible repeat (first | refine blk_drewN ?_ _ | refine blk_drew ?_ | refine blk_alloc ?_ _)); exact BK102.1⟩, ⟨by (with_reducible repeat (first | refine blk_drewN ?_ _ | refine blk_drew ?_ | refine blk_alloc ?_ _)); refine blk_put (cs := #[.slice Ao8 t103.length co8, .slice none 0 0]) ?_ 1 _ rfl; (with_reducible repeat (first | refine blk_drewN ?_ _ | refine blk_drew ?_ | refine blk_alloc ?_ _)); refine blk_put (cs := #[.slice none 0 0, .slice none 0 0]) ?_ 0 _ rfl; (with_reducible repeat (first | refine blk_drewN ?_ _ | refine blk_drew ?_ | refine blk_alloc ?_ _)); exact BK106.1⟩, ⟨pY42⟩⟩
 case round =>
  clear H'
  try clear hcz12_0
  try clear hcz12_1
  try clear hcz6_0
  try clear hcz6_1
  try clear hfz12_0
  try clear hfz12_1
  try clear hfz6_0
  try clear hfz6_1
  obtain ⟨x4_1, x107001_1, u107001, rfl, HA, HK1, HO_107000, HO_107001, BK101, BK102, BK106, HB⟩ := hrel
  cases gk with
  | zero => exact absurd HA.out (by simp [spec_l1Copy.l0])
  | succ k1 =>
   have H := HA.out
   clear HA
   simp only [spec_l1Copy.l0] at H
   by_cases c13 : x4_1 < (l0_1.length : Int)
   ·rw [if_pos c13] at H
    have c13b0 : decide (x4_1 < (l0_1.length : Int)) = true := decide_eq_true c13
    clear c13
    by_cases c14 : 0 ≤ x4_1
    ·rw [if_pos c14] at H
     have c14b0 : decide (0 ≤ x4_1) = true := decide_eq_true c14
     clear c14
     obtain ⟨t109, A15, H⟩ := bd H
     obtain ⟨t113, A16, H⟩ := bd H
     by_cases c17 : x107001_1.length < 2199023255552
     ·rw [if_pos c17] at H
      have LMc17 := am c17
      clear c17
      first | (replace H := bZ (x107001_1 ++ [(⟨(rd_T56 l0_1 x4_1).f0, t109, t113⟩ : S56)]) H; obtain ⟨y116, Ny116, H⟩ := H) | (obtain ⟨y116, Ny116⟩ := yv (x107001_1 ++ [(⟨(rd_T56 l0_1 x4_1).f0, t109, t113⟩ : S56)]); rw [← Ny116.1] at H)
      have H' := am H
      clear H
      have hnb18 := NB101_102.1
      have hnc18 := NB102_101.1
      have hnb19 := NB101_106.1
      have hnc19 := NB106_101.1
      obtain ⟨hcz20_0, hcz20_1, hfz20_0, hfz20_1⟩ := cz2 BK101
      try go_wp2
      replace HO_107000 := am (Kd.R_drew HO_107000.1)
      replace HO_107001 := am (Kd.S_drew HO_107001.1)
      replace BK101 := am (blk_drew BK101.1)
      replace BK102 := am (blk_drew BK102.1)
      replace BK106 := am (blk_drew BK106.1)
      replace HB := am (below_drew1 HB.1)
      have p107 : 0 ≤ (x4_1 : Int) := of_decide_eq_true (pY82)
      have q107 : x4_1 < (l0_1.length : Int) := of_decide_eq_true (pY82)
      obtain ⟨ad107, A107_1, c107_1, A107_2, c107_2, e107, hx107_0, hx107_1, hx107_2, hl107_1, hi107_1, hl107_2, hi107_2⟩ := at_T56 HR0_1.1 x4_1 p107 q107
      have hw107_2 := hx107_2
      have hw107_1 := hx107_1
      have hw107_0 := hx107_0
      cases e107
      replace hx107_0 := hX HB hx107_0
      replace hx107_1 := hX HB hx107_1
      replace hx107_2 := hX HB hx107_2
      have HR107_1 := am hi107_1
      have HC107_1 := am hl107_1
      clear hi107_1 hl107_1
      have HR107_2 := am hi107_2
      have HC107_2 := am hl107_2
      clear hi107_2 hl107_2
      replace p107 := eq_true p107
      replace q107 := eq_true q107
      have p108 : 0 ≤ (x4_1 : Int) := of_decide_eq_true (pY82)
      have q108 : x4_1 < (l0_1.length : Int) := of_decide_eq_true (pY82)
      obtain ⟨ad108, A108_1, c108_1, A108_2, c108_2, e108, hx108_0, hx108_1, hx108_2, hl108_1, hi108_1, hl108_2, hi108_2⟩ := at_T56 HR0_1.1 x4_1 p108 q108
      have hw108_2 := hx108_2
      have hw108_1 := hx108_1
      have hw108_0 := hx108_0
      obtain rfl : ad107 = ad108 := (by injection e108)
      replace hx108_0 := hX HB hx108_0
      replace hx108_1 := hX HB hx108_1
      replace hx108_2 := hX HB hx108_2
      have HR108_1 := am hi108_1
      have HC108_1 := am hl108_1
      clear hi108_1 hl108_1
      have HR108_2 := am hi108_2
      have HC108_2 := am hl108_2
      clear hi108_2 hl108_2
      replace p108 := eq_true p108
      replace q108 := eq_true q108
      have ea_ := Option.some.inj (hx107_1.symm.trans hx108_1)
      injection ea_ with ea_ en_ ec_
      subst ea_
      subst ec_
      clear en_
      have ea_ := Option.some.inj (hx107_2.symm.trans hx108_2)
      injection ea_ with ea_ en_ ec_
      subst ea_
      subst ec_
      clear en_
      have p112 : 0 ≤ (x4_1 : Int) := of_decide_eq_true (pY82)
      have q112 : x4_1 < (l0_1.length : Int) := of_decide_eq_true (pY82)
      obtain ⟨ad112, A112_1, c112_1, A112_2, c112_2, e112, hx112_0, hx112_1, hx112_2, hl112_1, hi112_1, hl112_2, hi112_2⟩ := at_T56 HR0_1.1 x4_1 p112 q112
      have hw112_2 := hx112_2
      have hw112_1 := hx112_1
      have hw112_0 := hx112_0
      obtain rfl : ad107 = ad112 := (by injection e112)
      replace hx112_0 := hX HB hx112_0
      replace hx112_1 := hX HB hx112_1
      replace hx112_2 := hX HB hx112_2
      have HR112_1 := am hi112_1
      have HC112_1 := am hl112_1
      clear hi112_1 hl112_1
      have HR112_2 := am hi112_2
      have HC112_2 := am hl112_2
      clear hi112_2 hl112_2
      replace p112 := eq_true p112
      replace q112 := eq_true q112
      have ea_ := Option.some.inj (hx107_1.symm.trans hx112_1)
      injection ea_ with ea_ en_ ec_
      subst ea_
      subst ec_
      clear en_
      have ea_ := Option.some.inj (hx107_2.symm.trans hx112_2)
      injection ea_ with ea_ en_ ec_
      subst ea_
      subst ec_
      clear en_
      refine sT [26] 27 (uB2 BK106 (uB2 BK101 (uBx HB hw107_0 (uBx HB hw107_1 (uBx HB hw107_2 (uBx HB hw108_0 (uBx HB hw108_1 (uBx HB hw108_2 (uBx HB hw112_0 (uBx HB hw112_1 (uAx HB hw112_2))))))))))) (fun hHeld => ?_); refine with_tabW spec_l1Copy.tab5 spec_l1Copy.bits5 (fun HT_ HW_ => ?_)
      generalize wr.drew = w21 at HO_107000 HO_107001 BK101 BK102 BK106 HB HR107_1 HR107_2 HR108_1 HR108_2 HR112_1 HR112_2 hx107_0 hx107_1 hx107_2 hx108_0 hx108_1 hx108_2 hx112_0 hx112_1 hx112_2 hHeld ⊢
      refine pU 0 (some 16) ?_
      refine pU 2 (some 18) ?_
      refine pU 4 (some 20) ?_
      refine pU 8 (some 24) ?_
      refine pU 10 (some 26) ?_
      refine pU 15 (some 31) ?_
      refine pU 17 (some 33) ?_
      refine tK13 1 (some 17) ?_
      refine tK13 3 (some 19) ?_
      refine pU 5 (some 21) ?_
      refine pU 6 (some 22) ?_
      refine tK13 7 (some 23) ?_
      refine tK13 9 (some 25) ?_
      refine pU 11 (some 27) ?_
      refine pU 12 (some 28) ?_
      refine tK13 13 (some 29) ?_
      refine tK13 16 (some 32) ?_
      refine pU 18 (some 34) ?_
      refine pU 19 (some 35) ?_
      refine tK13 20 (some 36) ?_
      refine oN 14 (some 30) fun K hK => ?_
      refine goes_ Try.func93 (by kernel_rfl) rfl #[.slice A107_1 ((rd_T56 l0_1 x4_1).f1).length c107_1] (by rfl) rfl rfl (pY54) ?_
      with_reducible refine (spec_l1Names.calls _ _ ((rd_T56 l0_1 x4_1).f1) t109 _ ?side1 ?side2 A15.out).mono ?_
      (case side1 => exact pC (Kd.C_below HR108_1.1 HB.1))
      (case side2 => exact HC108_1.1)
      rintro e w22 ⟨v110, rfl, ho0, hb⟩
      refine ⟨_, rfl, ?_⟩
      replace HO_107001 := am (Kd.S_elder' (pY66) (Kd.R_base ho0) hb)
      have HO111 := am (Kd.R_lower (Kd.R_new' ho0 (Kd.R_lt (pY65))) (below_size (pY42)))
      replace HO_107000 := am (Kd.R_elder' (pY65) (Kd.R_base ho0) hb)
      replace BK101 := bB pY58 hb
      replace BK102 := bB pY59 hb
      replace BK106 := bB pY60 hb
      replace HB := bS pY42 hb
      (try clear hb)
      (try clear hb2)
      (try clear hk)
      (try clear hi)
      (try clear ho0)
      refine hK.out _ _ (uB2 BK106 (uB2 BK101 (uBx HB hw107_0 (uBx HB hw107_1 (uBx HB hw107_2 (uBx HB hw108_0 (uBx HB hw108_1 (uBx HB hw108_2 (uBx HB hw112_0 (uBx HB hw112_1 (uAx HB hw112_2))))))))))).1 (fun hHeld => ?_)
      clear hK K
      refine nM ?_
      refine oN 21 (some 37) fun K hK => ?_
      refine goes_ Try.func93 (by kernel_rfl) rfl #[.slice A107_2 ((rd_T56 l0_1 x4_1).f2).length c107_2] (by rfl) rfl rfl (pY54) ?_
      with_reducible refine (spec_l1Names.calls _ _ ((rd_T56 l0_1 x4_1).f2) t113 _ ?side1 ?side2 A16.out).mono ?_
      (case side1 => exact pC (Kd.C_below HR112_2.1 HB.1))
      (case side2 => exact HC112_2.1)
      rintro e w23 ⟨v114, rfl, ho0, hb⟩
      refine ⟨_, rfl, ?_⟩
      replace HO_107001 := am (Kd.S_elder' (pY66) (Kd.R_base ho0) hb)
      have HO115 := am (Kd.R_lower (Kd.R_new' (Kd.R_new' ho0 (Kd.R_lt (pY65))) (Kd.R_lt (rR HO111.1))) (below_size (pY42)))
      replace HO_107000 := am (Kd.R_elder' (pY65) (Kd.R_base ho0) hb)
      replace HO111 := am (Kd.R_elder' (rR HO111.1) (Kd.R_base ho0) hb)
      replace BK101 := bB pY58 hb
      replace BK102 := bB pY59 hb
      replace BK106 := bB pY60 hb
      replace HB := bS pY42 hb
      (try clear hb)
      (try clear hb2)
      (try clear hk)
      (try clear hi)
      (try clear ho0)
      obtain ⟨Ao24, co24, eo24⟩ := Kd.R_slice HO115.1
      (first | subst eo24 | (injection eo24 with f1_ f2_ f3_; have f4_ := f1_.symm; have f5_ := f3_.symm; clear f1_ f2_ f3_; subst f4_; subst f5_))
      obtain ⟨Ao25, co25, eo25⟩ := Kd.R_slice HO111.1
      (first | subst eo25 | (injection eo25 with f1_ f2_ f3_; have f4_ := f1_.symm; have f5_ := f3_.symm; clear f1_ f2_ f3_; subst f4_; subst f5_))
      refine hK.out _ _ (uB2 BK106 (uB2 BK101 (uBx HB hw107_0 (uBx HB hw107_1 (uBx HB hw107_2 (uBx HB hw108_0 (uBx HB hw108_1 (uBx HB hw108_2 (uBx HB hw112_0 (uBx HB hw112_1 (uAx HB hw112_2))))))))))).1 (fun hHeld => ?_)
      clear hK K
      refine nM ?_
      refine pU 22 (some 38) ?_
      refine oN 23 (some 39) fun K hK => ?_
      refine value_ (w1 := ?_) (v := ?_) (by rfl) rfl ?_ ?_
      rotate_left 2
      ·go_simp
       constructor
       ·rfl
       ·rfl
      refine hK.out _ _ ⟨(blk_cell (blk_alloc BK106.1 _) 0).trans rfl, (blk_cell (blk_alloc BK106.1 _) 1).trans rfl, (blk_cell (blk_alloc BK101.1 _) 0).trans rfl, (blk_cell (blk_alloc BK101.1 _) 1).trans rfl, (World.cell?_alloc_lt _ _ _ (World.block_lt_of_cell? _ _ ((hX HB hw107_0)))).trans ((hX HB hw107_0)), (World.cell?_alloc_lt _ _ _ (World.block_lt_of_cell? _ _ ((hX HB hw107_1)))).trans ((hX HB hw107_1)), (World.cell?_alloc_lt _ _ _ (World.block_lt_of_cell? _ _ ((hX HB hw107_2)))).trans ((hX HB hw107_2)), (World.cell?_alloc_lt _ _ _ (World.block_lt_of_cell? _ _ ((hX HB hw108_0)))).trans ((hX HB hw108_0)), (World.cell?_alloc_lt _ _ _ (World.block_lt_of_cell? _ _ ((hX HB hw108_1)))).trans ((hX HB hw108_1)), (World.cell?_alloc_lt _ _ _ (World.block_lt_of_cell? _ _ ((hX HB hw108_2)))).trans ((hX HB hw108_2)), (World.cell?_alloc_lt _ _ _ (World.block_lt_of_cell? _ _ ((hX HB hw112_0)))).trans ((hX HB hw112_0)), (World.cell?_alloc_lt _ _ _ (World.block_lt_of_cell? _ _ ((hX HB hw112_1)))).trans ((hX HB hw112_1)), (World.cell?_alloc_lt _ _ _ (World.block_lt_of_cell? _ _ ((hX HB hw112_2)))).trans ((hX HB hw112_2))⟩ (fun hHeld => ?_)
      clear hK K
      refine nM ?_
      refine oN 24 (some 40) fun K hK => ?_
      refine Kd.S_append_step k56 (w0 := w) w.heap.size (by rfl) (.tmp 17) (.tmp 39) 29 56 (.agg #[(.string ⟨#[]⟩), (.slice none 0 0), (.slice none 0 0)]) 64 rfl Try.underlying29 info56 rfl (by decide) (by omega) u107001 x107001_1 (⟨(rd_T56 l0_1 x4_1).f0, t109, t113⟩ : S56) [.string ((rd_T56 l0_1 x4_1).f0), .slice Ao25 t109.length co25, .slice Ao24 t113.length co24] (fun k_ => some k_ ≠ (.slice Ao8 t103.length co8 : Value).ownBlock) (fun k_ => some k_ = (.slice Ao25 t109.length co25 : Value).ownBlock ∨ some k_ = (.slice Ao24 t113.length co24 : Value).ownBlock) rfl rfl ?aP (fun k_ hk_ => hk_.elim (fun h_ => ((Kd.R_mono (ok' := fun k_ => ((fun k_ => some k_ ≠ (.slice Ao8 t103.length co8 : Value).ownBlock)) k_ ∧ some k_ ≠ (u107001 : Value).ownBlock) (Kd.R_apart' (HO111.1) (Kd.S_typed HO_107001.1) (by decide)) (fun k_ hk => ⟨hk.1.1.2, hk.2⟩))).1 k_ h_.symm) (fun h_ => ((Kd.R_mono (ok' := fun k_ => ((fun k_ => some k_ ≠ (.slice Ao8 t103.length co8 : Value).ownBlock)) k_ ∧ some k_ ≠ (u107001 : Value).ownBlock) (Kd.R_apart' (HO115.1) (Kd.S_typed HO_107001.1) (by decide)) (fun k_ hk => ⟨hk.1.1.2, hk.2⟩))).1 k_ h_.symm)) ?aF ?aO ?aB ?aS ?aL ?_
      (case aP => exact k56_mkM _ _ _ (⟨(rd_T56 l0_1 x4_1).f0, t109, t113⟩ : S56) (Kd.R_mono (Kd.R_tight rfl (Kd.R_mono (ok' := fun k_ => ((fun k_ => some k_ ≠ (.slice Ao8 t103.length co8 : Value).ownBlock)) k_ ∧ some k_ ≠ (u107001 : Value).ownBlock) (Kd.R_apart' (HO111.1) (Kd.S_typed HO_107001.1) (by decide)) (fun k_ hk => ⟨hk.1.1.2, hk.2⟩))) (fun _ h_ => Or.inl h_)) (Kd.R_mono (Kd.R_tight rfl (Kd.R_mono (ok' := fun k_ => ((fun k_ => some k_ ≠ (.slice Ao8 t103.length co8 : Value).ownBlock)) k_ ∧ some k_ ≠ (u107001 : Value).ownBlock) (Kd.R_apart' (HO115.1) (Kd.S_typed HO_107001.1) (by decide)) (fun k_ hk => ⟨hk.1.1.2, hk.2⟩))) (fun _ h_ => Or.inr (h_))) (sep_of HO111.1 HO115.1))
      (case aB => exact (pY42))
      (case aF => exact (fun k_ hk => Kd.fresh' (Kd.R_lt (pY65)) k_ hk))
      (case aO => exact (by refine rS ?_; exact Kd.S_mono HO_107001.1 (fun k_ hk => ⟨hk.1.1, fun e_ => e_.elim (fun h_ => hk.1.2 h_) (fun h_ => hk.2 h_)⟩)))
      (case aS => exact (below_size (pY42)))
      (case aL => have := LMc17.out; omega)
      intro v117 w26 ho hb hg hat
      rw [← Ny116.out] at ho
      replace HO_107000 := am (Kd.R_over' (pY65) (Kd.S_typed (pY66)) (by decide) hg)
      replace BK101 := am (blk_grown (g := gb101) (o := .cells #[.slice A0_0 l0_0.length c0_0, .slice (some ad107) l0_1.length c0_1] 31 (0, 0)) (pY58) hg (Kd.S_ne HO_107001.1 BK101.1 (by decide)))
      replace BK102 := am (blk_grown (g := gb102) (o := .cells #[.slice none 0 0, .slice none 0 0] 31 (0, 0)) (pY59) hg (Kd.S_ne HO_107001.1 BK102.1 (by decide)))
      replace BK106 := am (blk_grown (g := gb106) (o := .cells #[.slice Ao8 t103.length co8, u107001] 31 (0, 0)) (pY60) hg (Kd.S_ne HO_107001.1 BK106.1 (by decide)))
      replace HB := am (hb)
      have HO118 := am (ho)
      clear HO_107001
      clear HO111
      clear HO115
      clear ho hb hg hat
      obtain ⟨Ao27, co27, eo27⟩ := Kd.S_slice HO118.1
      (first | subst eo27 | (injection eo27 with f1_ f2_ f3_; have f4_ := f1_.symm; have f5_ := f3_.symm; clear f1_ f2_ f3_; subst f4_; subst f5_))
      refine hK.out _ _ (uB2 BK106 (uB2 BK101 (uBx HB hw107_0 (uBx HB hw107_1 (uBx HB hw107_2 (uBx HB hw108_0 (uBx HB hw108_1 (uBx HB hw108_2 (uBx HB hw112_0 (uBx HB hw112_1 (uAx HB hw112_2))))))))))).1 (fun hHeld => ?_)
      clear hK K
      refine nM ?_
      refine pU 25 (some 41) ?_
      refine last_ (i := 26) (N := none) (bz 27 134217727) rfl rfl (one_of HT_.out (by kernel_rfl)) (by decide) (fun K hK => ?_)
      have hs28 : w26.cell? ⟨gb106, 1, none⟩ = some (u107001) := (blk_cell BK106.1 1).trans rfl
      have hfs28 := blk_frozen BK106.1 1
      have hns28_0 := NB101_106.1
      have hns28_1 := NB102_106.1
      have hms28_0 := NB106_101.1
      have hms28_1 := NB106_102.1
      refine skip_ (w1 := ?_) (by rfl) rfl ?_ ?_
      rotate_left
      ·go_simp
       rfl
      refine hK.out _ _ ?_
      clear hK K
      refine done_ (done_of HT_.out (by kernel_rfl)) ?_
      try go_wp2
      go_roundg k1
      case measure => have := HK1.out; omega
      case rel => exact ⟨(wrap64 (x4_1 + 1)), (y116), (.slice Ao27 y116.length co27), (pY83), H', ⟨by have := HK1.out; omega⟩, ⟨by refine rR ?_; exact Kd.R_mono (Kd.R_far (p := ⟨gb106, 1, none⟩) (Kd.R_types HO_107000.1 BK106.1 (by decide)) (fun _ hk => hk.2) (.slice Ao27 y116.length co27)) (fun _ hk => trivial)⟩, ⟨by refine rS ?_; exact Kd.S_mono (Kd.S_far (p := ⟨gb106, 1, none⟩) (Kd.S_types HO118.1 BK106.1 (by decide)) (fun _ hk => hk.2) (.slice Ao27 y116.length co27)) (fun _ hk => hk.1)⟩, ⟨by (with_reducible repeat (first | refine blk_drewN ?_ _ | refine blk_drew ?_ | refine blk_alloc ?_ _)); refine blk_far ?_ NB101_106.1 _; (with_reducible repeat (first | refine blk_drewN ?_ _ | refine blk_drew ?_ | refine blk_alloc ?_ _)); exact BK101.1⟩, ⟨by (with_reducible repeat (first | refine blk_drewN ?_ _ | refine blk_drew ?_ | refine blk_alloc ?_ _)); refine blk_far ?_ NB102_106.1 _; (with_reducible repeat (first | refine blk_drewN ?_ _ | refine blk_drew ?_ | refine blk_alloc ?_ _)); exact BK102.1⟩, ⟨by (with_reducible repeat (first | refine blk_drewN ?_ _ | refine blk_drew ?_ | refine blk_alloc ?_ _)); refine blk_put (cs := #[.slice Ao8 t103.length co8, u107001]) ?_ 1 _ rfl; (with_reducible repeat (first | refine blk_drewN ?_ _ | refine blk_drew ?_ | refine blk_alloc ?_ _)); exact BK106.1⟩, ⟨pY42⟩⟩
     ·rw [if_neg c17] at H
      exact absurd H (by simp)
    ·rw [if_neg c14] at H
     exact absurd H (by simp)
   ·rw [if_neg c13] at H
    have c13b0 : decide (x4_1 < (l0_1.length : Int)) = false := decide_eq_false c13
    clear c13
    simp only [Option.some.injEq, Prod.mk.injEq] at H
    obtain ⟨rfl, rfl⟩ := H
    have hnb29 := NB101_102.1
    have hnc29 := NB102_101.1
    have hnb30 := NB101_106.1
    have hnc30 := NB106_101.1
    obtain ⟨hcz31_0, hcz31_1, hfz31_0, hfz31_1⟩ := cz2 BK101
    have hnb32 := NB106_102.1
    have hnc32 := NB102_106.1
    obtain ⟨hcz33_0, hcz33_1, hfz33_0, hfz33_1⟩ := cz2 BK106
    obtain ⟨hcz34_0, hcz34_1, hfz34_0, hfz34_1⟩ := cz2 BK102
    obtain ⟨Ao35, co35, eo35⟩ := Kd.S_slice HO_107001.1
    subst eo35
    go_wp2
    refine bodyPost_ret (results_cell_row rfl _ _ gb102 31 #[.slice Ao8 t103.length co8, .slice Ao35 x107001_1.length co35] (0, 0) _ rfl (by (with_reducible repeat (first | refine blk_drewN ?_ _ | refine blk_drew ?_ | refine blk_alloc ?_ _)); refine blk_put (cs := #[.slice Ao8 t103.length co8, .slice none 0 0]) ?_ 1 _ rfl; (with_reducible repeat (first | refine blk_drewN ?_ _ | refine blk_drew ?_ | refine blk_alloc ?_ _)); refine blk_put (cs := #[.slice none 0 0, .slice none 0 0]) ?_ 0 _ rfl; (with_reducible repeat (first | refine blk_drewN ?_ _ | refine blk_drew ?_ | refine blk_alloc ?_ _)); exact BK102.1) Try.underlying31 rfl (by kernel_rfl)) rfl ?_
    exact ⟨_, _, by first | rfl | (simp [errW_none, errW_some] <;> rfl) | (simp [*, errW_none, errW_some] <;> rfl), by refine rR ?_; exact Kd.R_mono (Kd.R_far (p := ⟨gb102, 1, none⟩) (Kd.R_far (p := ⟨gb102, 0, none⟩) (Kd.R_types HO_107000.1 BK102.1 (by decide)) (fun _ hk => hk.2) (.slice Ao8 t103.length co8)) (fun _ hk => hk.2) (.slice Ao35 x107001_1.length co35)) (fun _ hk => trivial), by refine rS ?_; exact Kd.S_mono (Kd.S_far (p := ⟨gb102, 1, none⟩) (Kd.S_far (p := ⟨gb102, 0, none⟩) (Kd.S_types HO_107001.1 BK102.1 (by decide)) (fun _ hk => hk.2) (.slice Ao8 t103.length co8)) (fun _ hk => hk.2) (.slice Ao35 x107001_1.length co35)) (fun _ hk => hk.1), pY42⟩
end Go.Proofs.Ytaofjgnhapnndaa.Q
namespace Go.Proofs.Ytaofjgnhapnndaa.Q
open Go.RowKit Go.Proofs.YtaofjgnhapnndaaW.PrintWords Go.Proofs.YtaofjgnhapnndaaW.PrintLast Go.Proofs.YtaofjgnhapnndaaW.PrintMore
set_option linter.unusedVariables false
set_option linter.unusedSimpArgs false
theorem k56_mkF1 (W : World) (ok : Nat → Prop) (x : S56) {A2 : Option Addr} {c2 e base : Nat} {v1 : Value} (h : Kd.R Kd.string e W base ok v1 x.f1) (l2 : x.f2.length ≤ c2) (g2 : Kd.F Kd.string W ok A2 x.f2.length x.f2) : Kd.FK k56 W ok x [.string x.f0, v1, .slice A2 x.f2.length c2] := by
 obtain ⟨A, c, rfl⟩ := Kd.R_slice h
 exact k56_mkF W ok x (Kd.R_reads' h).2.1 (Kd.R_F h) l2 g2
theorem setCell_same {w : World} {b o : Nat} {v : Value} (h : w.cell? ⟨b, o, none⟩ = some v) : w.setCell ⟨b, o, none⟩ v = w := by
 have e : (w.setCell ⟨b, o, none⟩ v).heap = w.heap := by
  have h' : (match w.heap[b]? with | some (.cells c _ _) => c[o]? | _ => none) = some v := h
  show w.heap.modify b (fun | .cells c elem frozen => .cells (c.setIfInBounds o v) elem frozen | o => o) = w.heap
  apply Array.ext_getElem?
  intro i
  rw [Array.getElem?_modify]
  by_cases hi : b = i
  ·subst hi
   rw [if_pos rfl]
   cases hb : w.heap[b]? with
   | none => rfl
   | some ob =>
    rw [hb] at h'
    cases ob with
    | cells c el fr =>
     have h2 : c[o]? = some v := h'
     have : c.setIfInBounds o v = c := by
      apply Array.ext_getElem?
      intro j
      rw [Array.getElem?_setIfInBounds]
      by_cases hj : o = j
      ·subst hj
       rw [if_pos rfl, h2]
       by_cases hh : o < c.size
       ·rw [if_pos hh]
       ·rw [Array.getElem?_eq_none (by omega)] at h2; cases h2
      ·rw [if_neg hj]
     show some (Obj.cells (c.setIfInBounds o v) el fr) = _
     rw [this]
    | _ => rfl
  ·rw [if_neg hi]
 show { w with heap := (w.setCell ⟨b, o, none⟩ v).heap } = w
 rw [e]
def spec_ShareAsk.l0 : Nat → List ByteArray → Int → Int → List ByteArray → List (S56) → List ByteArray → List (S56) → List ByteArray → List (S56) → Option (List ByteArray × (List (S56)) × Int)
 | 0, _, _, _, _, _, _, _, _, _ => none
 | k + 1, x2, x9, x11, x102000, x102001, x111000, x111001, x122000, x122001 => if x11 < (x2.length : Int) then (if 0 ≤ x9 then (if x9 < (x122001.length : Int) then (if 0 ≤ x11 then (if insF (rdOf ByteArray.empty x2 x11) ((rd_T56 x122001 x9).f1) = true then (spec_ShareAsk.l0 k x2 x9 (wrap64 (x11 + 1)) x102000 x102001 x111000 x111001 x122000 x122001) else ((spec_l3Insert.f k ((rd_T56 x122001 x9).f1) (rdOf ByteArray.empty x2 x11)).bind fun t124 => (spec_ShareAsk.l0 k x2 x9 (wrap64 (x11 + 1)) x102000 x102001 x111000 x111001 x122000 (x122001.set (x9 : Int).toNat (⟨(rd_T56 x122001 x9).f0, t124, (rd_T56 x122001 x9).f2⟩ : S56))))) else (none)) else (none)) else (none)) else ((spec_ShareSafe.f k x102000 x102001).bind fun t128 => (if t128 = true then ((spec_ShareSafe.f k x122000 x122001).bind fun t129 => (if t129 = true then ((spec_l1Copy.f k x122000 x122001).bind fun bt130 => (some (bt130.1, bt130.2, 0))) else (some (x111000, x111001, 6)))) else ((spec_l1Copy.f k x122000 x122001).bind fun bt136 => (some (bt136.1, bt136.2, 0)))))
def spec_ShareAsk.f (k : Nat) (l0_0 : List ByteArray) (l0_1 : List (S56)) (a1 : ByteArray) (l2 : List ByteArray) : Option (List ByteArray × (List (S56)) × Int) := (spec_ShareBookOk.f k l0_0 l0_1).bind fun t103 => (if t103 = true then ((spec_l1Copy.f k l0_0 l0_1).bind fun bt104 => ((spec_l1At.f k l0_0 l0_1 a1).bind fun t111 => (if t111 < 0 then (some (bt104.1, bt104.2, 3)) else (if 0 ≤ t111 then (if t111 < (l0_1.length : Int) then ((spec_l1NamesOk.f k l2 ((rd_T56 l0_1 t111).f2)).bind fun t113 => (if t113 = true then ((spec_l3Taken.f k l0_0 l0_1 t111 l2).bind fun t114 => (if t114 = true then (some (bt104.1, bt104.2, 5)) else ((spec_l1Copy.f k l0_0 l0_1).bind fun bt115 => (spec_ShareAsk.l0 k l2 t111 0 l0_0 l0_1 bt104.1 bt104.2 bt115.1 bt115.2)))) else (some (bt104.1, bt104.2, 2)))) else (none)) else (none))))) else (some (([] : List ByteArray), ([] : List (S56)), 1)))
def spec_ShareAsk.T15 : Bool × List (List Nat × List Nat) := (true, [([], []), ([0], [0]), ([], []), ([], []), ([3], [3]), ([], []), ([4, 5], [4, 5]), ([6], [6]), ([7], [7]), ([], []), ([], []), ([9, 10], [9, 10]), ([11], [11]), ([8, 12], [8, 12]), ([1, 2, 0, 1, 2, 3, 4, 5, 6, 7, 8, 9, 10, 11, 12, 13], [1, 2]), ([14, 0, 1, 2, 3, 4, 5, 6, 7, 8, 9, 10, 11, 12, 13], [14]), ([15, 13, 13, 0, 1, 2, 3, 4, 5, 6, 7, 8, 9, 10, 11, 12, 13], [13, 15])])
def spec_ShareAsk.B15 : List Nat := [0, 1, 0, 0, 8, 0, 56, 120, 248, 0, 0, 1536, 3584, 8184, 16383, 32767, 65535]
theorem spec_ShareAsk.tab15 : rtab .any (opsOf Try.f61 15) = spec_ShareAsk.T15 := by kernel_rfl
theorem spec_ShareAsk.bits15 : waitsOk spec_ShareAsk.T15.2 spec_ShareAsk.B15 = true := by kernel_rfl
set_option maxHeartbeats 8000000 in
set_option maxRecDepth 100000 in
theorem spec_ShareAsk.calls (k : Nat) (A0_0 : Option Addr) (c0_0 : Nat) (l0_0 : List ByteArray) (A0_1 : Option Addr) (c0_1 : Nat) (l0_1 : List (S56)) (a1 : ByteArray) (A2 : Option Addr) (c2 : Nat) (l2 : List ByteArray) (r1 : List ByteArray) (r2 : List (S56)) (r3 : Int) (w : World) (hr0_0 : Kd.C Kd.string w A0_0 l0_0.length l0_0) (hc0_0 : l0_0.length ≤ c0_0) (hr0_1 : Kd.C k56 w A0_1 l0_1.length l0_1) (hc0_1 : l0_1.length ≤ c0_1) (hr2 : Kd.C Kd.string w A2 l2.length l2) (hc2 : l2.length ≤ c2) (h : spec_ShareAsk.f k l0_0 l0_1 a1 l2 = some (r1, r2, r3)) :
  Calls Try.prog 61 #[.agg #[.slice A0_0 l0_0.length c0_0, .slice A0_1 l0_1.length c0_1], .string a1, .slice A2 l2.length c2] w fun e w' => ∃ v0_ v1_ : Value, e = .returned (.tuple #[.agg #[v0_, v1_], .int .i64 r3]) ∧ Kd.R Kd.string 9 w' w.heap.size (fun k_ => (w.heap.size ≤ k_)) v0_ r1 ∧ Kd.N k56 56 w' w.heap.size (fun k_ => (w.heap.size ≤ k_) ∧ some k_ ≠ (v0_ : Value).ownBlock) v1_ r2 ∧ Below w.heap.size w w' := by
 have hu31 := Try.underlying31
 have HR0_0 := am hr0_0
 have HC0_0 := am hc0_0
 clear hr0_0 hc0_0
 have HR0_1 := am hr0_1
 have HC0_1 := am hc0_1
 clear hr0_1 hc0_1
 have HR2 := am hr2
 have HC2 := am hc2
 clear hr2 hc2
 have HB := am (Below.refl w.heap.size w)
 have H : ((spec_ShareBookOk.f k l0_0 l0_1).bind fun t103 => (if t103 = true then ((spec_l1Copy.f k l0_0 l0_1).bind fun bt104 => ((spec_l1At.f k l0_0 l0_1 a1).bind fun t111 => (if t111 < 0 then (some (bt104.1, bt104.2, 3)) else (if 0 ≤ t111 then (if t111 < (l0_1.length : Int) then ((spec_l1NamesOk.f k l2 ((rd_T56 l0_1 t111).f2)).bind fun t113 => (if t113 = true then ((spec_l3Taken.f k l0_0 l0_1 t111 l2).bind fun t114 => (if t114 = true then (some (bt104.1, bt104.2, 5)) else ((spec_l1Copy.f k l0_0 l0_1).bind fun bt115 => (spec_ShareAsk.l0 k l2 t111 0 l0_0 l0_1 bt104.1 bt104.2 bt115.1 bt115.2)))) else (some (bt104.1, bt104.2, 2)))) else (none)) else (none))))) else (some (([] : List ByteArray), ([] : List (S56)), 1)))) = some (r1, r2, r3) := h
 clear h
 obtain ⟨t103, A4, H⟩ := bd H
 by_cases c5 : t103 = true
 ·subst c5
  replace H := iT H
  obtain ⟨⟨t104, t107⟩, A6, H⟩ := bd H
  dsimp only at H
  obtain ⟨t111, A7, H⟩ := bd H
  by_cases c8 : t111 < 0
  ·rw [if_pos c8] at H
   have c8b0 : decide (t111 < 0) = true := decide_eq_true c8
   clear c8
   simp only [Option.some.injEq, Prod.mk.injEq] at H
   obtain ⟨rfl, rfl, rfl⟩ := H
   go_enter Try.func61, Try.ntmps61
   go_wp2_with (first | ((with_reducible refine gate_dst (N := 3) rfl ?_); refine box_event ?hg (N := 3) ?hd (cs := #[.slice A0_0 l0_0.length c0_0, .slice A0_1 l0_1.length c0_1]) (t := 31) ?hr ?_; (case hd => rfl); (case hg => rfl); (case hr => (try (obtain ⟨Az_, cz_, ez_⟩ := Kd.R_slice HO126.1; subst ez_)); first | (go_simp; done) | (go_simp; rfl)); intro gb101 hg w9 hbox hb; have BK101 := am (hbox); have GW101 := am (pY52 : w.heap.size ≤ gb101); have GE101 := am (pY52 : w.heap.size ≤ gb101); replace HB := bS pY55 hb; clear hb hbox hg) | ((with_reducible refine gate_dst (N := 6) rfl ?_); refine box_event ?hg (N := 6) ?hd (cs := #[.slice none 0 0, .slice none 0 0]) (t := 31) ?hr ?_; (case hd => rfl); (case hg => rfl); (case hr => (try (obtain ⟨Az_, cz_, ez_⟩ := Kd.R_slice HO126.1; subst ez_)); first | (go_simp; done) | (go_simp; rfl)); intro gb102 hg w10 hbox hb; have BK102 := am (hbox); have GW102 := am (pY45 : w.heap.size ≤ gb102); have GE102 := am (pY45 : w.heap.size ≤ gb102); replace HB := bS pY53 hb; have NB101_102 := nL pY58 hg; have NB102_101 := nG pY58 hg; replace BK101 := bB pY58 hb; clear hb hbox hg; have hnb11 := NB101_102.1; have hnc11 := NB102_101.1; obtain ⟨hcz12_0, hcz12_1, hfz12_0, hfz12_1⟩ := cz2 BK101) | ((with_reducible refine gate_callee (f := 22) rfl ?_); refine goesL_ (some 13) rfl rfl Try.func22 (by kernel_rfl) rfl #[.agg #[.slice A0_0 l0_0.length c0_0, .slice A0_1 l0_1.length c0_1]] rfl (pY54) ?_; (with_reducible refine (spec_ShareBookOk.calls k _ _ l0_0 _ _ l0_1 true _ ?side1 ?side2 ?side3 ?side4 A4.out).mono ?_); (case side1 => exact pC (Kd.C_below HR0_0.1 HB.1)); (case side2 => exact HC0_0.1); (case side3 => exact pC (Kd.C_below HR0_1.1 HB.1)); (case side4 => exact HC0_1.1); rintro e w13 ⟨rfl, hb⟩; refine ⟨_, rfl, ?_⟩; replace BK101 := bB pY58 hb; replace BK102 := bB pY59 hb; replace HB := bS pY46 hb; (try clear hb); (try clear hb2); (try clear hk); (try clear hi); obtain ⟨hcz14_0, hcz14_1, hfz14_0, hfz14_1⟩ := cz2 BK101) | ((with_reducible refine gate_callee (f := 89) rfl ?_); refine goesL_ (some 17) rfl rfl Try.func89 (by kernel_rfl) rfl #[.agg #[.slice A0_0 l0_0.length c0_0, .slice A0_1 l0_1.length c0_1]] rfl (pY54) ?_; (with_reducible refine (spec_l1Copy.calls k _ _ l0_0 _ _ l0_1 t104 t107 _ ?side1 ?side2 ?side3 ?side4 A6.out).mono ?_); (case side1 => exact pC (Kd.C_below HR0_0.1 HB.1)); (case side2 => exact HC0_0.1); (case side3 => exact pC (Kd.C_below HR0_1.1 HB.1)); (case side4 => exact HC0_1.1); rintro e w15 ⟨v105, v108, rfl, ho0, ho1, hb⟩; refine ⟨_, rfl, ?_⟩; have HO106 := am (Kd.R_lower (Kd.R_newM (M := fun k_ => (w.heap.size ≤ k_)) ho0 (below_size (pY46)) (fun k_ h_ => h_)) (below_size (pY46))); have HO109 := am (Kd.N_lower (Kd.N_mono (ok' := fun k_ => (w.heap.size ≤ k_) ∧ some k_ ≠ (v105 : Value).ownBlock ∧ k_ ≠ gb101 ∧ k_ ≠ gb102) (Kd.S_N (Kd.S_bound ho1)) (fun k_ hk_ => ⟨(Nat.le_trans (below_size (pY46)) hk_.2.1), hk_.1, (Kd.freshB (g := gb101) (o := .cells #[.slice A0_0 l0_0.length c0_0, .slice A0_1 l0_1.length c0_1] 31 (0, 0)) (pY58) k_ hk_.2.1), (Kd.freshB (g := gb102) (o := .cells #[.slice none 0 0, .slice none 0 0] 31 (0, 0)) (pY59) k_ hk_.2.1)⟩)) (below_size (pY46))); replace BK101 := bB pY58 hb; replace BK102 := bB pY59 hb; replace HB := bS pY46 hb; (try clear hb); (try clear hb2); (try clear hk); (try clear hi); (try clear ho0); (try clear ho1)) | ((with_reducible refine gate_dst (N := 8) rfl ?_); refine box_event ?hg (N := 8) ?hd (cs := #[.slice none 0 0, .slice none 0 0]) (t := 31) ?hr ?_; (case hd => rfl); (case hg => rfl); (case hr => (try (obtain ⟨Az_, cz_, ez_⟩ := Kd.R_slice HO126.1; subst ez_)); first | (go_simp; done) | (go_simp; rfl)); intro gb110 hg w16 hbox hb; replace HO106 := am (Kd.R_below (pY74) hb); replace HO109 := am (Kd.N_below (Kd.N_elderB (pY75) gb110 (Nat.le_of_eq hg.symm)) hb); have BK110 := am (hbox); have GW110 := am (pY39 : w.heap.size ≤ gb110); have GE110 := am (pY39 : w.heap.size ≤ gb110); replace HB := bS pY46 hb; have NB101_110 := nL pY58 hg; have NB110_101 := nG pY58 hg; replace BK101 := bB pY58 hb; have NB102_110 := nL pY59 hg; have NB110_102 := nG pY59 hg; replace BK102 := bB pY59 hb; clear hb hbox hg; obtain ⟨Ao17, co17, eo17⟩ := Kd.R_slice HO106.1; subst eo17; have hnb18 := NB110_101.1; have hnc18 := NB101_110.1; have hnb19 := NB110_102.1; have hnc19 := NB102_110.1; obtain ⟨hcz20_0, hcz20_1, hfz20_0, hfz20_1⟩ := cz2 BK110; obtain ⟨Ao21, co21, eo21⟩ := Kd.N_slice HO109.1; subst eo21; obtain ⟨hcz22_0, hcz22_1, hfz22_0, hfz22_1⟩ := cz2 BK101) | ((with_reducible refine gate_callee (f := 82) rfl ?_); refine goesL_ (some 20) rfl rfl Try.func82 (by kernel_rfl) rfl #[.agg #[.slice A0_0 l0_0.length c0_0, .slice A0_1 l0_1.length c0_1], .string a1] rfl (pY54) ?_; (with_reducible refine (spec_l1At.calls k _ _ l0_0 _ _ l0_1 a1 t111 _ ?side1 ?side2 ?side3 ?side4 A7.out).mono ?_); (case side1 => exact Kd.C_below HR0_0.1 (pY43)); (case side2 => exact HC0_0.1); (case side3 => exact Kd.C_below HR0_1.1 (pY43)); (case side4 => exact HC0_1.1); rintro e w23 ⟨rfl, hb⟩; refine ⟨_, rfl, ?_⟩; replace HO106 := am (Kd.R_below (pY15) hb); replace HO109 := am (Kd.N_below (by refine rN ?_; exact (Kd.N_mono (Kd.N_far (p := ⟨gb110, 1, none⟩) (Kd.N_far (p := ⟨gb110, 0, none⟩) (Kd.N_mono HO109.1 (fun k_ hk => (⟨hk, hk.2⟩ : _ ∧ k_ ≠ gb110))) (fun _ hk => hk.2) (.slice Ao17 t104.length co17)) (fun _ hk => hk.2) (.slice Ao21 t107.length co21)) (fun _ h_ => h_.1))) hb); replace BK101 := am (blk_below (g := gb101) (o := .cells #[.slice A0_0 l0_0.length c0_0, .slice A0_1 l0_1.length c0_1] 31 (0, 0)) (pY10) hb); replace BK102 := am (blk_below (g := gb102) (o := .cells #[.slice none 0 0, .slice none 0 0] 31 (0, 0)) (pY11) hb); replace BK110 := am (blk_below (g := gb110) (o := .cells #[.slice Ao17 t104.length co17, .slice Ao21 t107.length co21] 31 (0, 0)) (pY5) hb); replace HB := bS pY43 hb; (try clear hb); (try clear hb2); (try clear hk); (try clear hi); obtain ⟨hcz24_0, hcz24_1, hfz24_0, hfz24_1⟩ := cz2 BK110; obtain ⟨hcz25_0, hcz25_1, hfz25_0, hfz25_1⟩ := cz2 BK102))
   refine bodyPost_ret (results_ct rfl _ _ gb102 31 #[.slice Ao17 t104.length co17, .slice Ao21 t107.length co21] (0, 0) _ rfl (pY6) Try.underlying31 rfl (by kernel_rfl)) rfl ?_
   exact ⟨_, _, by first | rfl | (simp [errW_none, errW_some] <;> rfl) | (simp [*, errW_none, errW_some] <;> rfl), by refine rR ?_; exact Kd.R_mono (Kd.R_far (p := ⟨gb102, 1, none⟩) (Kd.R_far (p := ⟨gb102, 0, none⟩) (Kd.R_types HO106.1 BK102.1 (by decide)) (fun _ hk => hk.2) (.slice Ao17 t104.length co17)) (fun _ hk => hk.2) (.slice Ao21 t107.length co21)) (fun _ hk => hk.1.1), by refine rN ?_; exact Kd.N_mono (Kd.N_far (p := ⟨gb102, 1, none⟩) (Kd.N_far (p := ⟨gb102, 0, none⟩) (Kd.N_mono HO109.1 (fun k_ hk => (⟨hk, hk.1.2.2.2⟩ : _ ∧ k_ ≠ gb102))) (fun _ hk => hk.2) (.slice Ao17 t104.length co17)) (fun _ hk => hk.2) (.slice Ao21 t107.length co21)) (fun _ hk => ⟨hk.1.1.1, hk.1.1.2.1⟩), pY43⟩
  ·rw [if_neg c8] at H
   have c8b0 : decide (t111 < 0) = false := decide_eq_false c8
   clear c8
   by_cases c26 : 0 ≤ t111
   ·rw [if_pos c26] at H
    have c26b0 : decide (0 ≤ t111) = true := decide_eq_true c26
    clear c26
    by_cases c27 : t111 < (l0_1.length : Int)
    ·rw [if_pos c27] at H
     have c27b0 : decide (t111 < (l0_1.length : Int)) = true := decide_eq_true c27
     clear c27
     obtain ⟨t113, A28, H⟩ := bd H
     by_cases c29 : t113 = true
     ·subst c29
      replace H := iT H
      obtain ⟨t114, A30, H⟩ := bd H
      by_cases c31 : t114 = true
      ·subst c31
       replace H := iT H
       simp only [Option.some.injEq, Prod.mk.injEq] at H
       obtain ⟨rfl, rfl, rfl⟩ := H
       go_enter Try.func61, Try.ntmps61
       go_wp2_with (first | ((with_reducible refine gate_dst (N := 3) rfl ?_); refine box_event ?hg (N := 3) ?hd (cs := #[.slice A0_0 l0_0.length c0_0, .slice A0_1 l0_1.length c0_1]) (t := 31) ?hr ?_; (case hd => rfl); (case hg => rfl); (case hr => (try (obtain ⟨Az_, cz_, ez_⟩ := Kd.R_slice HO126.1; subst ez_)); first | (go_simp; done) | (go_simp; rfl)); intro gb101 hg w32 hbox hb; have BK101 := am (hbox); have GW101 := am (pY52 : w.heap.size ≤ gb101); have GE101 := am (pY52 : w.heap.size ≤ gb101); replace HB := bS pY55 hb; clear hb hbox hg) | ((with_reducible refine gate_dst (N := 6) rfl ?_); refine box_event ?hg (N := 6) ?hd (cs := #[.slice none 0 0, .slice none 0 0]) (t := 31) ?hr ?_; (case hd => rfl); (case hg => rfl); (case hr => (try (obtain ⟨Az_, cz_, ez_⟩ := Kd.R_slice HO126.1; subst ez_)); first | (go_simp; done) | (go_simp; rfl)); intro gb102 hg w33 hbox hb; have BK102 := am (hbox); have GW102 := am (pY45 : w.heap.size ≤ gb102); have GE102 := am (pY45 : w.heap.size ≤ gb102); replace HB := bS pY53 hb; have NB101_102 := nL pY58 hg; have NB102_101 := nG pY58 hg; replace BK101 := bB pY58 hb; clear hb hbox hg; have hnb34 := NB101_102.1; have hnc34 := NB102_101.1; obtain ⟨hcz35_0, hcz35_1, hfz35_0, hfz35_1⟩ := cz2 BK101) | ((with_reducible refine gate_callee (f := 22) rfl ?_); refine goesL_ (some 13) rfl rfl Try.func22 (by kernel_rfl) rfl #[.agg #[.slice A0_0 l0_0.length c0_0, .slice A0_1 l0_1.length c0_1]] rfl (pY54) ?_; (with_reducible refine (spec_ShareBookOk.calls k _ _ l0_0 _ _ l0_1 true _ ?side1 ?side2 ?side3 ?side4 A4.out).mono ?_); (case side1 => exact pC (Kd.C_below HR0_0.1 HB.1)); (case side2 => exact HC0_0.1); (case side3 => exact pC (Kd.C_below HR0_1.1 HB.1)); (case side4 => exact HC0_1.1); rintro e w36 ⟨rfl, hb⟩; refine ⟨_, rfl, ?_⟩; replace BK101 := bB pY58 hb; replace BK102 := bB pY59 hb; replace HB := bS pY46 hb; (try clear hb); (try clear hb2); (try clear hk); (try clear hi); obtain ⟨hcz37_0, hcz37_1, hfz37_0, hfz37_1⟩ := cz2 BK101) | ((with_reducible refine gate_callee (f := 89) rfl ?_); refine goesL_ (some 17) rfl rfl Try.func89 (by kernel_rfl) rfl #[.agg #[.slice A0_0 l0_0.length c0_0, .slice A0_1 l0_1.length c0_1]] rfl (pY54) ?_; (with_reducible refine (spec_l1Copy.calls k _ _ l0_0 _ _ l0_1 t104 t107 _ ?side1 ?side2 ?side3 ?side4 A6.out).mono ?_); (case side1 => exact pC (Kd.C_below HR0_0.1 HB.1)); (case side2 => exact HC0_0.1); (case side3 => exact pC (Kd.C_below HR0_1.1 HB.1)); (case side4 => exact HC0_1.1); rintro e w38 ⟨v105, v108, rfl, ho0, ho1, hb⟩; refine ⟨_, rfl, ?_⟩; have HO106 := am (Kd.R_lower (Kd.R_newM (M := fun k_ => (w.heap.size ≤ k_)) ho0 (below_size (pY46)) (fun k_ h_ => h_)) (below_size (pY46))); have HO109 := am (Kd.N_lower (Kd.N_mono (ok' := fun k_ => (w.heap.size ≤ k_) ∧ some k_ ≠ (v105 : Value).ownBlock ∧ k_ ≠ gb101 ∧ k_ ≠ gb102) (Kd.S_N (Kd.S_bound ho1)) (fun k_ hk_ => ⟨(Nat.le_trans (below_size (pY46)) hk_.2.1), hk_.1, (Kd.freshB (g := gb101) (o := .cells #[.slice A0_0 l0_0.length c0_0, .slice A0_1 l0_1.length c0_1] 31 (0, 0)) (pY58) k_ hk_.2.1), (Kd.freshB (g := gb102) (o := .cells #[.slice none 0 0, .slice none 0 0] 31 (0, 0)) (pY59) k_ hk_.2.1)⟩)) (below_size (pY46))); replace BK101 := bB pY58 hb; replace BK102 := bB pY59 hb; replace HB := bS pY46 hb; (try clear hb); (try clear hb2); (try clear hk); (try clear hi); (try clear ho0); (try clear ho1)) | ((with_reducible refine gate_dst (N := 8) rfl ?_); refine box_event ?hg (N := 8) ?hd (cs := #[.slice none 0 0, .slice none 0 0]) (t := 31) ?hr ?_; (case hd => rfl); (case hg => rfl); (case hr => (try (obtain ⟨Az_, cz_, ez_⟩ := Kd.R_slice HO126.1; subst ez_)); first | (go_simp; done) | (go_simp; rfl)); intro gb110 hg w39 hbox hb; replace HO106 := am (Kd.R_below (pY74) hb); replace HO109 := am (Kd.N_below (Kd.N_elderB (pY75) gb110 (Nat.le_of_eq hg.symm)) hb); have BK110 := am (hbox); have GW110 := am (pY39 : w.heap.size ≤ gb110); have GE110 := am (pY39 : w.heap.size ≤ gb110); replace HB := bS pY46 hb; have NB101_110 := nL pY58 hg; have NB110_101 := nG pY58 hg; replace BK101 := bB pY58 hb; have NB102_110 := nL pY59 hg; have NB110_102 := nG pY59 hg; replace BK102 := bB pY59 hb; clear hb hbox hg; obtain ⟨Ao40, co40, eo40⟩ := Kd.R_slice HO106.1; subst eo40; have hnb41 := NB110_101.1; have hnc41 := NB101_110.1; have hnb42 := NB110_102.1; have hnc42 := NB102_110.1; obtain ⟨hcz43_0, hcz43_1, hfz43_0, hfz43_1⟩ := cz2 BK110; obtain ⟨Ao44, co44, eo44⟩ := Kd.N_slice HO109.1; subst eo44; obtain ⟨hcz45_0, hcz45_1, hfz45_0, hfz45_1⟩ := cz2 BK101) | ((with_reducible refine gate_callee (f := 82) rfl ?_); refine goesL_ (some 20) rfl rfl Try.func82 (by kernel_rfl) rfl #[.agg #[.slice A0_0 l0_0.length c0_0, .slice A0_1 l0_1.length c0_1], .string a1] rfl (pY54) ?_; (with_reducible refine (spec_l1At.calls k _ _ l0_0 _ _ l0_1 a1 t111 _ ?side1 ?side2 ?side3 ?side4 A7.out).mono ?_); (case side1 => exact Kd.C_below HR0_0.1 (pY43)); (case side2 => exact HC0_0.1); (case side3 => exact Kd.C_below HR0_1.1 (pY43)); (case side4 => exact HC0_1.1); rintro e w46 ⟨rfl, hb⟩; refine ⟨_, rfl, ?_⟩; replace HO106 := am (Kd.R_below (by refine rR ?_; exact (Kd.R_mono (Kd.R_far (p := ⟨gb110, 1, none⟩) (Kd.R_far (p := ⟨gb110, 0, none⟩) (Kd.R_types HO106.1 BK110.1 (by decide)) (fun _ hk => hk.2) (.slice Ao40 t104.length co40)) (fun _ hk => hk.2) (.slice Ao44 t107.length co44)) (fun _ h_ => h_.1))) hb); replace HO109 := am (Kd.N_below (by refine rN ?_; exact (Kd.N_mono (Kd.N_far (p := ⟨gb110, 1, none⟩) (Kd.N_far (p := ⟨gb110, 0, none⟩) (Kd.N_mono HO109.1 (fun k_ hk => (⟨hk, hk.2⟩ : _ ∧ k_ ≠ gb110))) (fun _ hk => hk.2) (.slice Ao40 t104.length co40)) (fun _ hk => hk.2) (.slice Ao44 t107.length co44)) (fun _ h_ => h_.1))) hb); replace BK101 := am (blk_below (g := gb101) (o := .cells #[.slice A0_0 l0_0.length c0_0, .slice A0_1 l0_1.length c0_1] 31 (0, 0)) (pY10) hb); replace BK102 := am (blk_below (g := gb102) (o := .cells #[.slice none 0 0, .slice none 0 0] 31 (0, 0)) (pY11) hb); replace BK110 := am (blk_below (g := gb110) (o := .cells #[.slice Ao40 t104.length co40, .slice Ao44 t107.length co44] 31 (0, 0)) (by (with_reducible repeat (first | refine blk_drewN ?_ _ | refine blk_drew ?_ | refine blk_alloc ?_ _)); refine blk_put (cs := #[.slice Ao40 t104.length co40, .slice none 0 0]) ?_ 1 _ rfl; (with_reducible repeat (first | refine blk_drewN ?_ _ | refine blk_drew ?_ | refine blk_alloc ?_ _)); refine blk_put (cs := #[.slice none 0 0, .slice none 0 0]) ?_ 0 _ rfl; (with_reducible repeat (first | refine blk_drewN ?_ _ | refine blk_drew ?_ | refine blk_alloc ?_ _)); exact BK110.1) hb); replace HB := bS pY43 hb; (try clear hb); (try clear hb2); (try clear hk); (try clear hi); obtain ⟨hcz47_0, hcz47_1, hfz47_0, hfz47_1⟩ := cz2 BK101; have p112 : 0 ≤ (t111 : Int) := of_decide_eq_true (pY82); have q112 : t111 < (l0_1.length : Int) := of_decide_eq_true (pY82); obtain ⟨ad112, A112_1, c112_1, A112_2, c112_2, e112, hx112_0, hx112_1, hx112_2, hl112_1, hi112_1, hl112_2, hi112_2⟩ := at_T56 HR0_1.1 t111 p112 q112; cases e112; replace hx112_0 := hX HB hx112_0; replace hx112_1 := hX HB hx112_1; replace hx112_2 := hX HB hx112_2; have HR112_1 := am hi112_1; have HC112_1 := am hl112_1; clear hi112_1 hl112_1; have HR112_2 := am hi112_2; have HC112_2 := am hl112_2; clear hi112_2 hl112_2; replace p112 := eq_true p112; replace q112 := eq_true q112) | ((with_reducible refine gate_callee (f := 71) rfl ?_); refine goesL_ (some 31) rfl rfl Try.func71 (by kernel_rfl) rfl #[.slice A2 l2.length c2, .slice A112_2 ((rd_T56 l0_1 t111).f2).length c112_2] rfl (pY54) ?_; (with_reducible refine (spec_l1NamesOk.calls k _ _ l2 _ _ ((rd_T56 l0_1 t111).f2) true _ ?side1 ?side2 ?side3 ?side4 A28.out).mono ?_); (case side1 => exact pC (Kd.C_below HR2.1 HB.1)); (case side2 => exact HC2.1); (case side3 => exact pC (Kd.C_below HR112_2.1 HB.1)); (case side4 => exact HC112_2.1); rintro e w' ⟨rfl, ⟨nd, rfl⟩⟩; refine ⟨_, rfl, ?_⟩; (try (rw [drewN_self w46]; generalize hq_ : World.drewN w46 _ = w46; have n0_ : Aside0 (Kd.R Kd.string 9 w46 w.heap.size (fun k_ => (((w.heap.size ≤ k_)) ∧ True)) (.slice Ao40 t104.length co40) t104) := ⟨by rw [← hq_]; exact (pY74)⟩; have n1_ : Aside0 (Kd.N k56 56 w46 w.heap.size (fun k_ => ((((w.heap.size ≤ k_)) ∧ (some k_ ≠ (.slice Ao40 t104.length co40 : Value).ownBlock ∧ (k_ ≠ gb101 ∧ k_ ≠ gb102))) ∧ k_ ≠ gb110)) (.slice Ao44 t107.length co44) t107) := ⟨by rw [← hq_]; exact (pY75)⟩; have n2_ : Aside0 (w46.heap[gb101]? = some (.cells #[.slice A0_0 l0_0.length c0_0, .slice (some ad112) l0_1.length c0_1] 31 (0, 0))) := ⟨by rw [← hq_]; exact (pY58)⟩; have n3_ : Aside0 (w46.heap[gb102]? = some (.cells #[.slice none 0 0, .slice none 0 0] 31 (0, 0))) := ⟨by rw [← hq_]; exact (pY59)⟩; have n4_ : Aside0 (w46.heap[gb110]? = some (.cells #[.slice Ao40 t104.length co40, .slice Ao44 t107.length co44] 31 (0, 0))) := ⟨by rw [← hq_]; exact (pY61)⟩; have n5_ : Aside0 (Below w.heap.size w w46) := ⟨by rw [← hq_]; exact (pY43)⟩; clear HO106 HO109 BK101 BK102 BK110 HB hq_; have HO106 := n0_; have HO109 := n1_; have BK101 := n2_; have BK102 := n3_; have BK110 := n4_; have HB := n5_; clear n0_ n1_ n2_ n3_ n4_ n5_)); obtain ⟨hcz48_0, hcz48_1, hfz48_0, hfz48_1⟩ := cz2 BK101) | ((with_reducible refine gate_callee (f := 105) rfl ?_); refine goesL_ (some 37) rfl rfl Try.func105 (by kernel_rfl) rfl #[.agg #[.slice A0_0 l0_0.length c0_0, .slice (some ad112) l0_1.length c0_1], .int .i64 t111, .slice A2 l2.length c2] rfl (pY54) ?_; (with_reducible refine (spec_l3Taken.calls k _ _ l0_0 _ _ l0_1 t111 _ _ l2 true _ ?side1 ?side2 ?side3 ?side4 ?side5 ?side6 A30.out).mono ?_); (case side1 => exact pC (Kd.C_below HR0_0.1 HB.1)); (case side2 => exact HC0_0.1); (case side3 => exact pC (Kd.C_below HR0_1.1 HB.1)); (case side4 => exact HC0_1.1); (case side5 => exact pC (Kd.C_below HR2.1 HB.1)); (case side6 => exact HC2.1); rintro e w49 ⟨rfl, hb⟩; refine ⟨_, rfl, ?_⟩; replace HO106 := am (Kd.R_below (pY74) hb); replace HO109 := am (Kd.N_below (pY75) hb); replace BK101 := bB pY58 hb; replace BK102 := bB pY59 hb; replace BK110 := bB pY61 hb; replace HB := bS pY43 hb; (try clear hb); (try clear hb2); (try clear hk); (try clear hi); obtain ⟨hcz50_0, hcz50_1, hfz50_0, hfz50_1⟩ := cz2 BK110; obtain ⟨hcz51_0, hcz51_1, hfz51_0, hfz51_1⟩ := cz2 BK102))
       refine bodyPost_ret (results_ct rfl _ _ gb102 31 #[.slice Ao40 t104.length co40, .slice Ao44 t107.length co44] (0, 0) _ rfl (by (with_reducible repeat (first | refine blk_drewN ?_ _ | refine blk_drew ?_ | refine blk_alloc ?_ _)); refine blk_put (cs := #[.slice Ao40 t104.length co40, .slice none 0 0]) ?_ 1 _ rfl; (with_reducible repeat (first | refine blk_drewN ?_ _ | refine blk_drew ?_ | refine blk_alloc ?_ _)); refine blk_put (cs := #[.slice none 0 0, .slice none 0 0]) ?_ 0 _ rfl; (with_reducible repeat (first | refine blk_drewN ?_ _ | refine blk_drew ?_ | refine blk_alloc ?_ _)); exact BK102.1) Try.underlying31 rfl (by kernel_rfl)) rfl ?_
       exact ⟨_, _, by first | rfl | (simp [errW_none, errW_some] <;> rfl) | (simp [*, errW_none, errW_some] <;> rfl), by refine rR ?_; exact Kd.R_mono (Kd.R_far (p := ⟨gb102, 1, none⟩) (Kd.R_far (p := ⟨gb102, 0, none⟩) (Kd.R_types HO106.1 BK102.1 (by decide)) (fun _ hk => hk.2) (.slice Ao40 t104.length co40)) (fun _ hk => hk.2) (.slice Ao44 t107.length co44)) (fun _ hk => hk.1.1), by refine rN ?_; exact Kd.N_mono (Kd.N_far (p := ⟨gb102, 1, none⟩) (Kd.N_far (p := ⟨gb102, 0, none⟩) (Kd.N_mono HO109.1 (fun k_ hk => (⟨hk, hk.1.2.2.2⟩ : _ ∧ k_ ≠ gb102))) (fun _ hk => hk.2) (.slice Ao40 t104.length co40)) (fun _ hk => hk.2) (.slice Ao44 t107.length co44)) (fun _ hk => ⟨hk.1.1.1, hk.1.1.2.1⟩), pY43⟩
      ·replace c31 := Bool.eq_false_iff.mpr c31
       subst c31
       replace H := iF H
       obtain ⟨⟨t115, t118⟩, A52, H⟩ := bd H
       dsimp only at H
       have H' := am H
       clear H
       go_enter Try.func61, Try.ntmps61
       go_wp2_with (first | ((with_reducible refine gate_dst (N := 3) rfl ?_); refine box_event ?hg (N := 3) ?hd (cs := #[.slice A0_0 l0_0.length c0_0, .slice A0_1 l0_1.length c0_1]) (t := 31) ?hr ?_; (case hd => rfl); (case hg => rfl); (case hr => (try (obtain ⟨Az_, cz_, ez_⟩ := Kd.R_slice HO126.1; subst ez_)); first | (go_simp; done) | (go_simp; rfl)); intro gb101 hg w53 hbox hb; have BK101 := am (hbox); have GW101 := am (pY52 : w.heap.size ≤ gb101); have GE101 := am (pY52 : w.heap.size ≤ gb101); replace HB := bS pY55 hb; clear hb hbox hg) | ((with_reducible refine gate_dst (N := 6) rfl ?_); refine box_event ?hg (N := 6) ?hd (cs := #[.slice none 0 0, .slice none 0 0]) (t := 31) ?hr ?_; (case hd => rfl); (case hg => rfl); (case hr => (try (obtain ⟨Az_, cz_, ez_⟩ := Kd.R_slice HO126.1; subst ez_)); first | (go_simp; done) | (go_simp; rfl)); intro gb102 hg w54 hbox hb; have BK102 := am (hbox); have GW102 := am (pY45 : w.heap.size ≤ gb102); have GE102 := am (pY45 : w.heap.size ≤ gb102); replace HB := bS pY53 hb; have NB101_102 := nL pY58 hg; have NB102_101 := nG pY58 hg; replace BK101 := bB pY58 hb; clear hb hbox hg; have hnb55 := NB101_102.1; have hnc55 := NB102_101.1; obtain ⟨hcz56_0, hcz56_1, hfz56_0, hfz56_1⟩ := cz2 BK101) | ((with_reducible refine gate_callee (f := 22) rfl ?_); refine goesL_ (some 13) rfl rfl Try.func22 (by kernel_rfl) rfl #[.agg #[.slice A0_0 l0_0.length c0_0, .slice A0_1 l0_1.length c0_1]] rfl (pY54) ?_; (with_reducible refine (spec_ShareBookOk.calls k _ _ l0_0 _ _ l0_1 true _ ?side1 ?side2 ?side3 ?side4 A4.out).mono ?_); (case side1 => exact pC (Kd.C_below HR0_0.1 HB.1)); (case side2 => exact HC0_0.1); (case side3 => exact pC (Kd.C_below HR0_1.1 HB.1)); (case side4 => exact HC0_1.1); rintro e w57 ⟨rfl, hb⟩; refine ⟨_, rfl, ?_⟩; replace BK101 := bB pY58 hb; replace BK102 := bB pY59 hb; replace HB := bS pY46 hb; (try clear hb); (try clear hb2); (try clear hk); (try clear hi); obtain ⟨hcz58_0, hcz58_1, hfz58_0, hfz58_1⟩ := cz2 BK101) | ((with_reducible refine gate_callee (f := 89) rfl ?_); refine goesL_ (some 17) rfl rfl Try.func89 (by kernel_rfl) rfl #[.agg #[.slice A0_0 l0_0.length c0_0, .slice A0_1 l0_1.length c0_1]] rfl (pY54) ?_; (with_reducible refine (spec_l1Copy.calls k _ _ l0_0 _ _ l0_1 t104 t107 _ ?side1 ?side2 ?side3 ?side4 A6.out).mono ?_); (case side1 => exact pC (Kd.C_below HR0_0.1 HB.1)); (case side2 => exact HC0_0.1); (case side3 => exact pC (Kd.C_below HR0_1.1 HB.1)); (case side4 => exact HC0_1.1); rintro e w59 ⟨v105, v108, rfl, ho0, ho1, hb⟩; refine ⟨_, rfl, ?_⟩; have HO106 := am (Kd.R_lower (Kd.R_newM (M := fun k_ => (w.heap.size ≤ k_)) ho0 (below_size (pY46)) (fun k_ h_ => h_)) (below_size (pY46))); have HO109 := am (Kd.N_lower (Kd.N_mono (ok' := fun k_ => (w.heap.size ≤ k_) ∧ some k_ ≠ (v105 : Value).ownBlock ∧ k_ ≠ gb101 ∧ k_ ≠ gb102) (Kd.S_N (Kd.S_bound ho1)) (fun k_ hk_ => ⟨(Nat.le_trans (below_size (pY46)) hk_.2.1), hk_.1, (Kd.freshB (g := gb101) (o := .cells #[.slice A0_0 l0_0.length c0_0, .slice A0_1 l0_1.length c0_1] 31 (0, 0)) (pY58) k_ hk_.2.1), (Kd.freshB (g := gb102) (o := .cells #[.slice none 0 0, .slice none 0 0] 31 (0, 0)) (pY59) k_ hk_.2.1)⟩)) (below_size (pY46))); replace BK101 := bB pY58 hb; replace BK102 := bB pY59 hb; replace HB := bS pY46 hb; (try clear hb); (try clear hb2); (try clear hk); (try clear hi); (try clear ho0); (try clear ho1)) | ((with_reducible refine gate_dst (N := 8) rfl ?_); refine box_event ?hg (N := 8) ?hd (cs := #[.slice none 0 0, .slice none 0 0]) (t := 31) ?hr ?_; (case hd => rfl); (case hg => rfl); (case hr => (try (obtain ⟨Az_, cz_, ez_⟩ := Kd.R_slice HO126.1; subst ez_)); first | (go_simp; done) | (go_simp; rfl)); intro gb110 hg w60 hbox hb; replace HO106 := am (Kd.R_below (pY74) hb); replace HO109 := am (Kd.N_below (Kd.N_elderB (pY75) gb110 (Nat.le_of_eq hg.symm)) hb); have BK110 := am (hbox); have GW110 := am (pY39 : w.heap.size ≤ gb110); have GE110 := am (pY39 : w.heap.size ≤ gb110); replace HB := bS pY46 hb; have NB101_110 := nL pY58 hg; have NB110_101 := nG pY58 hg; replace BK101 := bB pY58 hb; have NB102_110 := nL pY59 hg; have NB110_102 := nG pY59 hg; replace BK102 := bB pY59 hb; clear hb hbox hg; obtain ⟨Ao61, co61, eo61⟩ := Kd.R_slice HO106.1; subst eo61; have hnb62 := NB110_101.1; have hnc62 := NB101_110.1; have hnb63 := NB110_102.1; have hnc63 := NB102_110.1; obtain ⟨hcz64_0, hcz64_1, hfz64_0, hfz64_1⟩ := cz2 BK110; obtain ⟨Ao65, co65, eo65⟩ := Kd.N_slice HO109.1; subst eo65; obtain ⟨hcz66_0, hcz66_1, hfz66_0, hfz66_1⟩ := cz2 BK101) | ((with_reducible refine gate_callee (f := 82) rfl ?_); refine goesL_ (some 20) rfl rfl Try.func82 (by kernel_rfl) rfl #[.agg #[.slice A0_0 l0_0.length c0_0, .slice A0_1 l0_1.length c0_1], .string a1] rfl (pY54) ?_; (with_reducible refine (spec_l1At.calls k _ _ l0_0 _ _ l0_1 a1 t111 _ ?side1 ?side2 ?side3 ?side4 A7.out).mono ?_); (case side1 => exact Kd.C_below HR0_0.1 (pY43)); (case side2 => exact HC0_0.1); (case side3 => exact Kd.C_below HR0_1.1 (pY43)); (case side4 => exact HC0_1.1); rintro e w67 ⟨rfl, hb⟩; refine ⟨_, rfl, ?_⟩; replace HO106 := am (Kd.R_below (by refine rR ?_; exact (Kd.R_mono (Kd.R_far (p := ⟨gb110, 1, none⟩) (Kd.R_far (p := ⟨gb110, 0, none⟩) (Kd.R_types HO106.1 BK110.1 (by decide)) (fun _ hk => hk.2) (.slice Ao61 t104.length co61)) (fun _ hk => hk.2) (.slice Ao65 t107.length co65)) (fun _ h_ => h_.1))) hb); replace HO109 := am (Kd.N_below (by refine rN ?_; exact (Kd.N_mono (Kd.N_far (p := ⟨gb110, 1, none⟩) (Kd.N_far (p := ⟨gb110, 0, none⟩) (Kd.N_mono HO109.1 (fun k_ hk => (⟨hk, hk.2⟩ : _ ∧ k_ ≠ gb110))) (fun _ hk => hk.2) (.slice Ao61 t104.length co61)) (fun _ hk => hk.2) (.slice Ao65 t107.length co65)) (fun _ h_ => h_.1))) hb); replace BK101 := am (blk_below (g := gb101) (o := .cells #[.slice A0_0 l0_0.length c0_0, .slice A0_1 l0_1.length c0_1] 31 (0, 0)) (pY10) hb); replace BK102 := am (blk_below (g := gb102) (o := .cells #[.slice none 0 0, .slice none 0 0] 31 (0, 0)) (pY11) hb); replace BK110 := am (blk_below (g := gb110) (o := .cells #[.slice Ao61 t104.length co61, .slice Ao65 t107.length co65] 31 (0, 0)) (by (with_reducible repeat (first | refine blk_drewN ?_ _ | refine blk_drew ?_ | refine blk_alloc ?_ _)); refine blk_put (cs := #[.slice Ao61 t104.length co61, .slice none 0 0]) ?_ 1 _ rfl; (with_reducible repeat (first | refine blk_drewN ?_ _ | refine blk_drew ?_ | refine blk_alloc ?_ _)); refine blk_put (cs := #[.slice none 0 0, .slice none 0 0]) ?_ 0 _ rfl; (with_reducible repeat (first | refine blk_drewN ?_ _ | refine blk_drew ?_ | refine blk_alloc ?_ _)); exact BK110.1) hb); replace HB := bS pY43 hb; (try clear hb); (try clear hb2); (try clear hk); (try clear hi); obtain ⟨hcz68_0, hcz68_1, hfz68_0, hfz68_1⟩ := cz2 BK101; have p112 : 0 ≤ (t111 : Int) := of_decide_eq_true (pY82); have q112 : t111 < (l0_1.length : Int) := of_decide_eq_true (pY82); obtain ⟨ad112, A112_1, c112_1, A112_2, c112_2, e112, hx112_0, hx112_1, hx112_2, hl112_1, hi112_1, hl112_2, hi112_2⟩ := at_T56 HR0_1.1 t111 p112 q112; cases e112; replace hx112_0 := hX HB hx112_0; replace hx112_1 := hX HB hx112_1; replace hx112_2 := hX HB hx112_2; have HR112_1 := am hi112_1; have HC112_1 := am hl112_1; clear hi112_1 hl112_1; have HR112_2 := am hi112_2; have HC112_2 := am hl112_2; clear hi112_2 hl112_2; replace p112 := eq_true p112; replace q112 := eq_true q112) | ((with_reducible refine gate_callee (f := 71) rfl ?_); refine goesL_ (some 31) rfl rfl Try.func71 (by kernel_rfl) rfl #[.slice A2 l2.length c2, .slice A112_2 ((rd_T56 l0_1 t111).f2).length c112_2] rfl (pY54) ?_; (with_reducible refine (spec_l1NamesOk.calls k _ _ l2 _ _ ((rd_T56 l0_1 t111).f2) true _ ?side1 ?side2 ?side3 ?side4 A28.out).mono ?_); (case side1 => exact pC (Kd.C_below HR2.1 HB.1)); (case side2 => exact HC2.1); (case side3 => exact pC (Kd.C_below HR112_2.1 HB.1)); (case side4 => exact HC112_2.1); rintro e w' ⟨rfl, ⟨nd, rfl⟩⟩; refine ⟨_, rfl, ?_⟩; (try (rw [drewN_self w67]; generalize hq_ : World.drewN w67 _ = w67; have n0_ : Aside0 (Kd.R Kd.string 9 w67 w.heap.size (fun k_ => (((w.heap.size ≤ k_)) ∧ True)) (.slice Ao61 t104.length co61) t104) := ⟨by rw [← hq_]; exact (pY74)⟩; have n1_ : Aside0 (Kd.N k56 56 w67 w.heap.size (fun k_ => ((((w.heap.size ≤ k_)) ∧ (some k_ ≠ (.slice Ao61 t104.length co61 : Value).ownBlock ∧ (k_ ≠ gb101 ∧ k_ ≠ gb102))) ∧ k_ ≠ gb110)) (.slice Ao65 t107.length co65) t107) := ⟨by rw [← hq_]; exact (pY75)⟩; have n2_ : Aside0 (w67.heap[gb101]? = some (.cells #[.slice A0_0 l0_0.length c0_0, .slice (some ad112) l0_1.length c0_1] 31 (0, 0))) := ⟨by rw [← hq_]; exact (pY58)⟩; have n3_ : Aside0 (w67.heap[gb102]? = some (.cells #[.slice none 0 0, .slice none 0 0] 31 (0, 0))) := ⟨by rw [← hq_]; exact (pY59)⟩; have n4_ : Aside0 (w67.heap[gb110]? = some (.cells #[.slice Ao61 t104.length co61, .slice Ao65 t107.length co65] 31 (0, 0))) := ⟨by rw [← hq_]; exact (pY61)⟩; have n5_ : Aside0 (Below w.heap.size w w67) := ⟨by rw [← hq_]; exact (pY43)⟩; clear HO106 HO109 BK101 BK102 BK110 HB hq_; have HO106 := n0_; have HO109 := n1_; have BK101 := n2_; have BK102 := n3_; have BK110 := n4_; have HB := n5_; clear n0_ n1_ n2_ n3_ n4_ n5_)); obtain ⟨hcz69_0, hcz69_1, hfz69_0, hfz69_1⟩ := cz2 BK101) | ((with_reducible refine gate_callee (f := 105) rfl ?_); refine goesL_ (some 37) rfl rfl Try.func105 (by kernel_rfl) rfl #[.agg #[.slice A0_0 l0_0.length c0_0, .slice (some ad112) l0_1.length c0_1], .int .i64 t111, .slice A2 l2.length c2] rfl (pY54) ?_; (with_reducible refine (spec_l3Taken.calls k _ _ l0_0 _ _ l0_1 t111 _ _ l2 false _ ?side1 ?side2 ?side3 ?side4 ?side5 ?side6 A30.out).mono ?_); (case side1 => exact pC (Kd.C_below HR0_0.1 HB.1)); (case side2 => exact HC0_0.1); (case side3 => exact pC (Kd.C_below HR0_1.1 HB.1)); (case side4 => exact HC0_1.1); (case side5 => exact pC (Kd.C_below HR2.1 HB.1)); (case side6 => exact HC2.1); rintro e w70 ⟨rfl, hb⟩; refine ⟨_, rfl, ?_⟩; replace HO106 := am (Kd.R_below (pY74) hb); replace HO109 := am (Kd.N_below (pY75) hb); replace BK101 := bB pY58 hb; replace BK102 := bB pY59 hb; replace BK110 := bB pY61 hb; replace HB := bS pY43 hb; (try clear hb); (try clear hb2); (try clear hk); (try clear hi); obtain ⟨hcz71_0, hcz71_1, hfz71_0, hfz71_1⟩ := cz2 BK101) | ((with_reducible refine gate_callee (f := 89) rfl ?_); refine goesL_ (some 40) rfl rfl Try.func89 (by kernel_rfl) rfl #[.agg #[.slice A0_0 l0_0.length c0_0, .slice (some ad112) l0_1.length c0_1]] rfl (pY54) ?_; (with_reducible refine (spec_l1Copy.calls k _ _ l0_0 _ _ l0_1 t115 t118 _ ?side1 ?side2 ?side3 ?side4 A52.out).mono ?_); (case side1 => exact pC (Kd.C_below HR0_0.1 HB.1)); (case side2 => exact HC0_0.1); (case side3 => exact pC (Kd.C_below HR0_1.1 HB.1)); (case side4 => exact HC0_1.1); rintro e w72 ⟨v116, v119, rfl, ho0, ho1, hb⟩; refine ⟨_, rfl, ?_⟩; have HO117 := am (Kd.R_lower (Kd.R_new' (Kd.R_newM (M := fun k_ => (w.heap.size ≤ k_)) ho0 (below_size (pY43)) (fun k_ h_ => h_)) (Kd.R_lt (pY74))) (below_size (pY43))); have HO120 := am (Kd.N_lower (Kd.N_mono (ok' := fun k_ => (w.heap.size ≤ k_) ∧ some k_ ≠ (v116 : Value).ownBlock ∧ some k_ ≠ (.slice Ao61 t104.length co61 : Value).ownBlock ∧ some k_ ≠ (.slice Ao65 t107.length co65 : Value).ownBlock ∧ k_ ≠ gb101 ∧ k_ ≠ gb102 ∧ k_ ≠ gb110) (Kd.S_N (Kd.S_bound ho1)) (fun k_ hk_ => ⟨(Nat.le_trans (below_size (pY43)) hk_.2.1), hk_.1, (Kd.fresh' (Kd.R_lt (pY74)) k_ hk_.2.1), (Kd.fresh' (Kd.N_lt (pY75)) k_ hk_.2.1), (Kd.freshB (g := gb101) (o := .cells #[.slice A0_0 l0_0.length c0_0, .slice (some ad112) l0_1.length c0_1] 31 (0, 0)) (pY58) k_ hk_.2.1), (Kd.freshB (g := gb102) (o := .cells #[.slice none 0 0, .slice none 0 0] 31 (0, 0)) (pY59) k_ hk_.2.1), (Kd.freshB (g := gb110) (o := .cells #[.slice Ao61 t104.length co61, .slice Ao65 t107.length co65] 31 (0, 0)) (pY61) k_ hk_.2.1)⟩)) (below_size (pY43))); replace HO106 := am (Kd.R_elder' (pY74) (Kd.R_base ho0) hb); replace HO109 := am (Kd.N_mono (Kd.N_told (Kd.N_told (Kd.N_old (pY75) hb) (Kd.R_base ho0)) (pY81)) (fun _ h_ => h_.1)); replace BK101 := bB pY58 hb; replace BK102 := bB pY59 hb; replace BK110 := bB pY61 hb; replace HB := bS pY43 hb; (try clear hb); (try clear hb2); (try clear hk); (try clear hi); (try clear ho0); (try clear ho1)) | ((with_reducible refine gate_dst (N := 10) rfl ?_); refine box_event ?hg (N := 10) ?hd (cs := #[.slice none 0 0, .slice none 0 0]) (t := 31) ?hr ?_; (case hd => rfl); (case hg => rfl); (case hr => (try (obtain ⟨Az_, cz_, ez_⟩ := Kd.R_slice HO126.1; subst ez_)); first | (go_simp; done) | (go_simp; rfl)); intro gb121 hg w73 hbox hb; replace HO106 := am (Kd.R_below (pY74) hb); replace HO109 := am (Kd.N_below (Kd.N_elderB (pY75) gb121 (Nat.le_of_eq hg.symm)) hb); replace HO117 := am (Kd.R_below (rR HO117.1) hb); replace HO120 := am (Kd.N_below (Kd.N_elderB (rN HO120.1) gb121 (Nat.le_of_eq hg.symm)) hb); have BK121 := am (hbox); have GW121 := am (pY26 : w.heap.size ≤ gb121); have GE121 := am (pY26 : w.heap.size ≤ gb121); replace HB := bS pY43 hb; have NB101_121 := nL pY58 hg; have NB121_101 := nG pY58 hg; replace BK101 := bB pY58 hb; have NB102_121 := nL pY59 hg; have NB121_102 := nG pY59 hg; replace BK102 := bB pY59 hb; have NB110_121 := nL pY61 hg; have NB121_110 := nG pY61 hg; replace BK110 := bB pY61 hb; clear hb hbox hg; obtain ⟨Ao74, co74, eo74⟩ := Kd.R_slice HO117.1; subst eo74; have hnb75 := NB121_101.1; have hnc75 := NB101_121.1; have hnb76 := NB121_102.1; have hnc76 := NB102_121.1; have hnb77 := NB121_110.1; have hnc77 := NB110_121.1; obtain ⟨hcz78_0, hcz78_1, hfz78_0, hfz78_1⟩ := cz2 BK121; obtain ⟨Ao79, co79, eo79⟩ := Kd.N_slice HO120.1; subst eo79))
       go_loopg [11] k (fun kq v11 w' => ∃ (x11_1 : Int) (x111001_1 : List (S56)) (x122001_1 : List (S56)) (u111001 : Value) (u122001 : Value), v11 = .int .i64 x11_1 ∧ Aside0 (spec_ShareAsk.l0 kq l2 t111 x11_1 l0_0 l0_1 t104 x111001_1 t115 x122001_1 = some (r1, r2, r3)) ∧ Aside0 (kq ≤ k) ∧ Aside0 (Kd.R Kd.string 9 w' w.heap.size (fun k_ => (w.heap.size ≤ k_) ∧ some k_ ≠ ((.slice Ao74 t115.length co74) : Value).ownBlock) (.slice Ao61 t104.length co61) t104) ∧ Aside0 (Kd.N k56 56 w' w.heap.size (fun k_ => (w.heap.size ≤ k_) ∧ some k_ ≠ ((.slice Ao61 t104.length co61) : Value).ownBlock ∧ some k_ ≠ ((.slice Ao74 t115.length co74) : Value).ownBlock ∧ some k_ ≠ (u122001 : Value).ownBlock ∧ k_ ≠ gb101 ∧ k_ ≠ gb102 ∧ k_ ≠ gb110 ∧ k_ ≠ gb121) u111001 x111001_1) ∧ Aside0 (Kd.R Kd.string 9 w' w.heap.size (fun k_ => (w.heap.size ≤ k_) ∧ some k_ ≠ ((.slice Ao61 t104.length co61) : Value).ownBlock) (.slice Ao74 t115.length co74) t115) ∧ Aside0 (Kd.N k56 56 w' w.heap.size (fun k_ => (w.heap.size ≤ k_) ∧ some k_ ≠ ((.slice Ao61 t104.length co61) : Value).ownBlock ∧ some k_ ≠ (u111001 : Value).ownBlock ∧ some k_ ≠ ((.slice Ao74 t115.length co74) : Value).ownBlock ∧ k_ ≠ gb101 ∧ k_ ≠ gb102 ∧ k_ ≠ gb110 ∧ k_ ≠ gb121) u122001 x122001_1) ∧ Aside0 (w'.heap[gb101]? = some (.cells #[(.slice A0_0 l0_0.length c0_0), (.slice (some ad112) l0_1.length c0_1)] 31 (0, 0))) ∧ Aside0 (w'.heap[gb102]? = some (.cells #[(.slice none 0 0), (.slice none 0 0)] 31 (0, 0))) ∧ Aside0 (w'.heap[gb110]? = some (.cells #[(.slice Ao61 t104.length co61), u111001] 31 (0, 0))) ∧ Aside0 (w'.heap[gb121]? = some (.cells #[(.slice Ao74 t115.length co74), u122001] 31 (0, 0))) ∧ Aside0 (Below w.heap.size w w'))
       case atStart => exact ⟨(0), (t107), (t118), (.slice Ao65 t107.length co65), (.slice Ao79 t118.length co79), (pY83), H', ⟨Nat.le_refl _⟩, ⟨by refine rR ?_; exact Kd.R_mono (Kd.R_far (p := ⟨gb121, 1, none⟩) (Kd.R_far (p := ⟨gb121, 0, none⟩) (Kd.R_types HO106.1 BK121.1 (by decide)) (fun _ hk => hk.2) (.slice Ao74 t115.length co74)) (fun _ hk => hk.2) (.slice Ao79 t118.length co79)) (fun _ hk => ⟨hk.1.1.1, hk.1.2⟩)⟩, ⟨by refine rN ?_; exact Kd.N_mono (Kd.N_far (p := ⟨gb121, 1, none⟩) (Kd.N_far (p := ⟨gb121, 0, none⟩) (Kd.N_mono HO109.1 (fun k_ hk => (⟨hk, hk.2⟩ : _ ∧ k_ ≠ gb121))) (fun _ hk => hk.2) (.slice Ao74 t115.length co74)) (fun _ hk => hk.2) (.slice Ao79 t118.length co79)) (fun _ hk => ⟨hk.1.1.1.1.1.1, ⟨hk.1.1.1.1.1.2.1, ⟨hk.1.1.1.2, ⟨hk.1.1.2, ⟨hk.1.1.1.1.1.2.2.1, ⟨hk.1.1.1.1.1.2.2.2, ⟨hk.1.1.1.1.2, hk.1.2⟩⟩⟩⟩⟩⟩⟩)⟩, ⟨by refine rR ?_; exact Kd.R_mono (Kd.R_far (p := ⟨gb121, 1, none⟩) (Kd.R_far (p := ⟨gb121, 0, none⟩) (Kd.R_types HO117.1 BK121.1 (by decide)) (fun _ hk => hk.2) (.slice Ao74 t115.length co74)) (fun _ hk => hk.2) (.slice Ao79 t118.length co79)) (fun _ hk => ⟨hk.1.1.1, hk.1.2⟩)⟩, ⟨by refine rN ?_; exact Kd.N_mono (Kd.N_far (p := ⟨gb121, 1, none⟩) (Kd.N_far (p := ⟨gb121, 0, none⟩) (Kd.N_mono HO120.1 (fun k_ hk => (⟨hk, hk.2⟩ : _ ∧ k_ ≠ gb121))) (fun _ hk => hk.2) (.slice Ao74 t115.length co74)) (fun _ hk => hk.2) (.slice Ao79 t118.length co79)) (fun _ hk => ⟨hk.1.1.1, ⟨hk.1.1.2.2.1, ⟨hk.1.1.2.2.2.1, ⟨hk.1.1.2.1, ⟨hk.1.1.2.2.2.2.1, ⟨hk.1.1.2.2.2.2.2.1, ⟨hk.1.1.2.2.2.2.2.2, hk.1.2⟩⟩⟩⟩⟩⟩⟩)⟩, ⟨by (with_reducible repeat (first | refine blk_drewN ?_ _ | refine blk_drew ?_ | refine blk_alloc ?_ _)); refine blk_far ?_ NB101_121.1 _; (with_reducible repeat (first | refine blk_drewN ?_ _ | refine blk_drew ?_ | refine blk_alloc ?_ _)); refine blk_far ?_ NB101_121.1 _; (with_reducible repeat (first | refine blk_drewN ?_ _ | refine blk_drew ?_ | refine blk_alloc ?_ _)); exact BK101.1⟩, ⟨by (with_reducible repeat (first | refine blk_drewN ?_ _ | refine blk_drew ?_ | refine blk_alloc ?_ _)); refine blk_far ?_ NB102_121.1 _; (with_reducible repeat (first | refine blk_drewN ?_ _ | refine blk_drew ?_ | refine blk_alloc ?_ _)); refine blk_far ?_ NB102_121.1 _; (with_reducible repeat (first | refine blk_drewN ?_ _ | refine blk_drew ?_ | refine blk_alloc ?_ _)); exact BK102.1⟩, ⟨by (with_reducible repeat (first | refine blk_drewN ?_ _ | refine blk_drew ?_ | refine blk_alloc ?_ _)); refine blk_far ?_ NB110_121.1 _; (with_reducible repeat (first | refine blk_drewN ?_ _ | refine blk_drew ?_ | refine blk_alloc ?_ _)); refine blk_far ?_ NB110_121.1 _; (with_reducible repeat (first | refine blk_drewN ?_ _ | refine blk_drew ?_ | refine blk_alloc ?_ _)); exact BK110.1⟩, ⟨by (with_reducible repeat (first | refine blk_drewN ?_ _ | refine blk_drew ?_ | refine blk_alloc ?_ _)); refine blk_put (cs := #[.slice Ao74 t115.length co74, .slice none 0 0]) ?_ 1 _ rfl; (with_reducible repeat (first | refine blk_drewN ?_ _ | refine blk_drew ?_ | refine blk_alloc ?_ _)); refine blk_put (cs := #[.slice none 0 0, .slice none 0 0]) ?_ 0 _ rfl; (with_reducible repeat (first | refine blk_drewN ?_ _ | refine blk_drew ?_ | refine blk_alloc ?_ _)); exact BK121.1⟩, ⟨pY27⟩⟩
       case round =>
        clear H'
        try clear c2
        try clear c5
        try clear c8
        try clear c8b0
        try clear c26
        try clear c26b0
        try clear c27
        try clear c27b0
        try clear c29
        try clear c31
        try clear hcz56_0
        try clear hcz56_1
        try clear hcz58_0
        try clear hcz58_1
        try clear hcz64_0
        try clear hcz64_1
        try clear hcz66_0
        try clear hcz66_1
        try clear hcz68_0
        try clear hcz68_1
        try clear hcz69_0
        try clear hcz69_1
        try clear hcz71_0
        try clear hcz71_1
        try clear hcz78_0
        try clear hcz78_1
        try clear hfz56_0
        try clear hfz56_1
        try clear hfz58_0
        try clear hfz58_1
        try clear hfz64_0
        try clear hfz64_1
        try clear hfz66_0
        try clear hfz66_1
        try clear hfz68_0
        try clear hfz68_1
        try clear hfz69_0
        try clear hfz69_1
        try clear hfz71_0
        try clear hfz71_1
        try clear hfz78_0
        try clear hfz78_1
        try clear hx112_0
        try clear hx112_1
        try clear hx112_2
        try clear p112
        try clear q112
        obtain ⟨x11_1, x111001_1, x122001_1, u111001, u122001, rfl, HA, HK1, HO_111000, HO_111001, HO_122000, HO_122001, BK101, BK102, BK110, BK121, HB⟩ := hrel
        cases gk with
        | zero => exact absurd HA.out (by simp [spec_ShareAsk.l0])
        | succ k1 =>
         have H := HA.out
         clear HA
         simp only [spec_ShareAsk.l0] at H
         by_cases c80 : x11_1 < (l2.length : Int)
         ·rw [if_pos c80] at H
          have c80b0 : decide (x11_1 < (l2.length : Int)) = true := decide_eq_true c80
          clear c80
          by_cases c81 : 0 ≤ t111
          ·rw [if_pos c81] at H
           have c81b0 : decide (0 ≤ t111) = true := decide_eq_true c81
           clear c81
           by_cases c82 : t111 < (x122001_1.length : Int)
           ·rw [if_pos c82] at H
            have c82b0 : decide (t111 < (x122001_1.length : Int)) = true := decide_eq_true c82
            clear c82
            by_cases c83 : 0 ≤ x11_1
            ·rw [if_pos c83] at H
             have c83b0 : decide (0 ≤ x11_1) = true := decide_eq_true c83
             clear c83
             have HF := am H
             clear H
             try go_wp2
             replace HO_111000 := am (Kd.R_drew HO_111000.1)
             replace HO_111001 := am (Kd.N_drew HO_111001.1)
             replace HO_122000 := am (Kd.R_drew HO_122000.1)
             replace HO_122001 := am (Kd.N_drew HO_122001.1)
             replace BK101 := am (blk_drew BK101.1)
             replace BK102 := am (blk_drew BK102.1)
             replace BK110 := am (blk_drew BK110.1)
             replace BK121 := am (blk_drew BK121.1)
             replace HB := am (below_drew1 HB.1)
             obtain ⟨Ao87, co87, eo87⟩ := Kd.N_slice HO_122001.1
             (first | subst eo87 | (injection eo87 with f1_ f2_ f3_; have f4_ := f1_.symm; have f5_ := f3_.symm; clear f1_ f2_ f3_; subst f4_; subst f5_))
             have p122 : 0 ≤ (t111 : Int) := of_decide_eq_true (pY82)
             have q122 : t111 < (x122001_1.length : Int) := of_decide_eq_true (pY82)
             obtain ⟨ad122, A122_1, c122_1, A122_2, c122_2, e122, hx122_0, hx122_1, hx122_2, hl122_1, hi122_1, hl122_2, hi122_2⟩ := at_T56 (Kd.N_reads' HO_122001.1).2.2 t111 p122 q122
             cases e122
             obtain ⟨ce122, hce122, hMe122, hcc122⟩ := Kd.N_get HO_122001.1 z56 t111 p122 (by first | exact q122 | exact of_decide_eq_true (pY82) | (have e_ := (Kd.N_reads' HO_122001.1).1; omega))
             obtain ⟨ua122_1, uc122_1, ua122_2, uc122_2, rfl, ul122_1, ge122_1, ul122_2, ge122_2⟩ := k56_openF hMe122
             have hv122_1 := hcc122 1 _ rfl
             rw [add_field _ _ 1 (by omega)] at hv122_1
             replace hv122_1 := Option.some.inj (hv122_1.symm.trans hx122_1)
             injection hv122_1 with hva_ hvn_ hvc_
             rw [hva_] at ge122_1
             rw [hvc_] at ul122_1
             have HL122_1 := am (show Kd.V Kd.string 9 _ w.heap.size _ _ ((rd_T56 x122001_1 t111).f1) from Kd.V_mk ul122_1 ge122_1)
             clear hva_ hvn_ hvc_ ge122_1 ul122_1
             have hv122_2 := hcc122 2 _ rfl
             rw [add_field _ _ 2 (by omega)] at hv122_2
             replace hv122_2 := Option.some.inj (hv122_2.symm.trans hx122_2)
             injection hv122_2 with hva_ hvn_ hvc_
             rw [hva_] at ge122_2
             rw [hvc_] at ul122_2
             have HL122_2 := am (show Kd.V Kd.string 9 _ w.heap.size _ _ ((rd_T56 x122001_1 t111).f2) from Kd.V_mk ul122_2 ge122_2)
             clear hva_ hvn_ hvc_ ge122_2 ul122_2
             clear hcc122 hce122
             have HR122_1 := am hi122_1
             have HC122_1 := am hl122_1
             clear hi122_1 hl122_1
             have HR122_2 := am hi122_2
             have HC122_2 := am hl122_2
             clear hi122_2 hl122_2
             replace p122 := eq_true p122
             replace q122 := eq_true q122
             have p123 : 0 ≤ (x11_1 : Int) := of_decide_eq_true (pY82)
             have q123 : x11_1 < (l2.length : Int) := of_decide_eq_true (pY82)
             obtain ⟨ad123, e123, hx123_0⟩ := Kd.at_string HR2.1 x11_1 p123 q123
             have hw123_0 := hx123_0
             cases e123
             replace hx123_0 := hX HB hx123_0
             replace p123 := eq_true p123
             replace q123 := eq_true q123
             refine sT (S := fun w' => w'.cell? ⟨gb121, 0, none⟩ = some (.slice Ao74 t115.length co74) ∧ w'.cell? ⟨gb121, 1, none⟩ = some (.slice (some ad122) x122001_1.length co87) ∧ w'.cell? (ad122.add ((t111).toNat * 3)) = some (.string ((rd_T56 x122001_1 t111).f0)) ∧ w'.cell? ⟨(ad122.add ((t111).toNat * 3)).block, (ad122.add ((t111).toNat * 3)).off + 1, none⟩ = some (.slice A122_1 ((rd_T56 x122001_1 t111).f1).length c122_1) ∧ w'.cell? ⟨(ad122.add ((t111).toNat * 3)).block, (ad122.add ((t111).toNat * 3)).off + 2, none⟩ = some (.slice A122_2 ((rd_T56 x122001_1 t111).f2).length c122_2) ∧ w'.cell? (ad123.add (x11_1).toNat) = some (.string (rdOf ByteArray.empty l2 x11_1))) [16] 17 ⟨⟨(blk_cell BK121.1 0).trans rfl, (blk_cell BK121.1 1).trans rfl, hx122_0, hx122_1, hx122_2, (hX HB hw123_0)⟩⟩ (fun hHeld => ?_); refine with_tabW spec_ShareAsk.tab15 spec_ShareAsk.bits15 (fun HT_ HW_ => ?_)
             generalize wr.drew = w86 at HO_111000 HO_111001 HO_122000 HO_122001 BK101 BK102 BK110 BK121 HB HL122_1 HL122_2 HR122_1 HR122_2 hx122_0 hx122_1 hx122_2 hx123_0 hHeld ⊢
             refine pU 0 (some 47) ?_
             refine pU 2 (some 49) ?_
             refine pU 3 (some 50) ?_
             refine pU 5 (some 52) ?_
             refine pU 9 (some 56) ?_
             refine pU 10 (some 57) ?_
             refine pU 11 (some 58) ?_
             refine tK6 1 (some 48) ?_
             refine tK6 4 (some 51) ?_
             refine pU 6 (some 53) ?_
             refine pU 7 (some 54) ?_
             refine tK6 8 (some 55) ?_
             refine tK6 12 (some 59) ?_
             have H := HF.out
             clear HF
             by_cases cF : insF (rdOf ByteArray.empty l2 x11_1) ((rd_T56 x122001_1 t111).f1) = true
             ·rw [if_pos cF] at H
              have H' := am H
              clear H
              have A84 := am (show spec_l3Insert.q0 (((rd_T56 x122001_1 t111).f1).length + 1) ((rd_T56 x122001_1 t111).f1) (rdOf ByteArray.empty l2 x11_1) 0 = some true from spec_l3Insert.q0_of ((rd_T56 x122001_1 t111).f1) (rdOf ByteArray.empty l2 x11_1) HR122_1.1.2.1 ((rd_T56 x122001_1 t111).f1).length 0 (by omega) (by simpa using cF))
              refine oN 13 (some 60) fun K hK => ?_
              refine goes_ Try.func106 (by kernel_rfl) rfl #[.slice A122_1 ((rd_T56 x122001_1 t111).f1).length c122_1, .string (rdOf ByteArray.empty l2 x11_1)] (by rfl) rfl rfl (pY54) ?_
              with_reducible refine (spec_l3Insert.same (((rd_T56 x122001_1 t111).f1).length + 1) _ _ ((rd_T56 x122001_1 t111).f1) (rdOf ByteArray.empty l2 x11_1) _ ?side1 ?side2 A84.out).mono ?_
              (case side1 => exact pC (by repeat (first | (with_reducible exact HR122_1.1) | (with_reducible refine Kd.C_alloc ?_ _) | (with_reducible refine Kd.C_drewN ?_ _) | (with_reducible refine Kd.C_drew ?_) | exact HR122_1.1)))
              (case side2 => exact HC122_1.1)
              rintro e w88 ⟨rfl, hb⟩
              have HS2_ := (hb.cell (World.block_lt_of_cell? _ _ (hHeld.2.2.1))).trans (hHeld.2.2.1)
              have HS3_ := (hb.cell (World.block_lt_of_cell? _ _ (hHeld.2.2.2.1))).trans (hHeld.2.2.2.1)
              have HS4_ := (hb.cell (World.block_lt_of_cell? _ _ (hHeld.2.2.2.2.1))).trans (hHeld.2.2.2.2.1)
              refine ⟨_, rfl, ?_⟩
              replace HO_111000 := am (Kd.R_below (pY67) hb)
              replace HO_111001 := am (Kd.N_below (pY68) hb)
              replace HO_122000 := am (Kd.R_below (pY69) hb)
              replace HO_122001 := am (Kd.N_below (pY70) hb)
              replace BK101 := bB pY58 hb
              replace BK102 := bB pY59 hb
              replace BK110 := bB pY61 hb
              replace BK121 := bB pY62 hb
              replace HR122_1 := am (Kd.C_below (by repeat (first | (with_reducible exact HR122_1.1) | (with_reducible refine Kd.C_alloc ?_ _) | (with_reducible refine Kd.C_drewN ?_ _) | (with_reducible refine Kd.C_drew ?_) | exact HR122_1.1)) hb)
              replace HR122_2 := am (Kd.C_below (by repeat (first | (with_reducible exact HR122_2.1) | (with_reducible refine Kd.C_alloc ?_ _) | (with_reducible refine Kd.C_drewN ?_ _) | (with_reducible refine Kd.C_drew ?_) | exact HR122_2.1)) hb)
              replace HB := bS pY27 hb
              clear HL122_1
              clear HL122_2
              (try clear hb)
              (try clear hb2)
              (try clear hk)
              (try clear hi)
              (try clear ho0)
              have p85 : 0 ≤ (t111 : Int) := of_decide_eq_true (pY82)
              have q85 : (t111 : Int) < ((x122001_1.length : Int) : Int) := of_decide_eq_true (pY82)
              obtain ⟨go85, co85, eo85, gb85, gl85, cl85, HG85⟩ := Kd.N_form HO_122001.1 (by omega)
              (first | cases eo85 | (injection eo85 with ea_ en_ ec_; (first | subst ea_ | (injection ea_ with ea_; subst ea_)); subst ec_; clear en_))
              have GB85 := am gb85
              have GG85 := am HG85
              clear gb85 gl85 HG85
              (first | simp only [add_plain] at hx122_0 | skip)
              (first | simp only [add_plain] at hx122_1 | skip)
              (first | simp only [add_plain] at hx122_2 | skip)
              obtain ⟨ce85, hcl85, hM85, hcc85, hfr85⟩ := Kd.N_elem HO_122001.1 z56 (t111 : Int) p85 q85
              obtain ⟨ua85_1, uc85_1, ua85_2, uc85_2, rfl, ul85_1, ge85_1, ul85_2, ge85_2⟩ := k56_openF hM85
              have hx85_0 : World.cell? _ ⟨go85, (t111 : Int).toNat * 3, none⟩ = some (.string ((rd_T56 x122001_1 t111).f0)) := hcc85 0 _ rfl
              have hx85_1 : World.cell? _ ⟨go85, (t111 : Int).toNat * 3 + 1, none⟩ = some (.slice ua85_1 ((rd_T56 x122001_1 t111).f1).length uc85_1) := hcc85 1 _ rfl
              have hx85_2 : World.cell? _ ⟨go85, (t111 : Int).toNat * 3 + 2, none⟩ = some (.slice ua85_2 ((rd_T56 x122001_1 t111).f2).length uc85_2) := hcc85 2 _ rfl
              have hf85_0 : World.frozen? _ ⟨go85, (t111 : Int).toNat * 3, none⟩ = false := hfr85 0
              have hf85_1 : World.frozen? _ ⟨go85, (t111 : Int).toNat * 3 + 1, none⟩ = false := hfr85 1
              have hf85_2 : World.frozen? _ ⟨go85, (t111 : Int).toNat * 3 + 2, none⟩ = false := hfr85 2
              clear hcl85 hcc85 hfr85 hM85
              replace p85 := eq_true p85
              replace q85 := eq_true q85
              refine hK.out _ _ ⟨(blk_cell BK121.1 0).trans rfl, (blk_cell BK121.1 1).trans rfl, HS2_, HS3_, HS4_, (hX HB hw123_0)⟩ (fun hHeld => ?_)
              clear hK K
              refine nM ?_
              refine pU 14 (some 61) ?_
              refine pU 15 (some 62) ?_
              refine last_ (i := 16) (N := none) (bz 17 131071) rfl rfl (one_of HT_.out (by kernel_rfl)) (by decide) (fun K hK => ?_)
              have hst_ : w88.cell? ⟨go85, (t111 : Int).toNat * 3 + 1, none⟩ = some (.slice A122_1 ((rd_T56 x122001_1 t111).f1).length c122_1) := by
               have h_ := HS3_
               simp only [add_plain] at h_
               exact h_
              refine skip_ (w1 := (w88.setCell ⟨go85, (t111 : Int).toNat * 3 + 1, none⟩ (.slice A122_1 ((rd_T56 x122001_1 t111).f1).length c122_1))) (by rfl) rfl ?_ ?_
              ·go_simp
               (try rfl)
              refine hK.out _ _ ?_
              clear hK K
              refine done_ (done_of HT_.out (by kernel_rfl)) ?_
              rw [setCell_same hst_]
              try go_wp2
              go_roundg k1
              case measure => have := HK1.out; omega
              case rel => exact ⟨(wrap64 (x11_1 + 1)), (x111001_1), (x122001_1), (u111001), (.slice (some ⟨go85, 0, none⟩) x122001_1.length co87), rfl, H', ⟨by have := HK1.out; omega⟩, HO_111000, HO_111001, HO_122000, HO_122001, BK101, BK102, BK110, BK121, HB⟩
             ·rw [if_neg cF] at H
              obtain ⟨t124, A84, H⟩ := bd H
              first | (replace H := bZ (x122001_1.set (t111 : Int).toNat (⟨(rd_T56 x122001_1 t111).f0, t124, (rd_T56 x122001_1 t111).f2⟩ : S56)) H; obtain ⟨y127, Ny127, H⟩ := H) | (obtain ⟨y127, Ny127⟩ := yv (x122001_1.set (t111 : Int).toNat (⟨(rd_T56 x122001_1 t111).f0, t124, (rd_T56 x122001_1 t111).f2⟩ : S56)); rw [← Ny127.1] at H)
              have H' := am H
              clear H
              refine oN 13 (some 60) fun K hK => ?_
              refine goes_ Try.func106 (by kernel_rfl) rfl #[.slice A122_1 ((rd_T56 x122001_1 t111).f1).length c122_1, .string (rdOf ByteArray.empty l2 x11_1)] (by rfl) rfl rfl (pY54) ?_
              with_reducible refine (spec_l3Insert.calls k1 _ _ ((rd_T56 x122001_1 t111).f1) (rdOf ByteArray.empty l2 x11_1) t124 _ ?side1 ?side2 A84.out).mono ?_
              (case side1 => exact pC (by repeat (first | (with_reducible exact HR122_1.1) | (with_reducible refine Kd.C_alloc ?_ _) | (with_reducible refine Kd.C_drewN ?_ _) | (with_reducible refine Kd.C_drew ?_) | exact HR122_1.1)))
              (case side2 => exact HC122_1.1)
              rintro e w88 ⟨v125, rfl, ho0, hb⟩
              have HS2_ := (hb.cell (World.block_lt_of_cell? _ _ (hHeld.2.2.1))).trans (hHeld.2.2.1)
              have HS3_ := (hb.cell (World.block_lt_of_cell? _ _ (hHeld.2.2.2.1))).trans (hHeld.2.2.2.1)
              have HS4_ := (hb.cell (World.block_lt_of_cell? _ _ (hHeld.2.2.2.2.1))).trans (hHeld.2.2.2.2.1)
              refine ⟨_, rfl, ?_⟩
              replace HO_111001 := am (Kd.N_elder' (pY68) (Kd.R_base ho0) hb)
              replace HO_122001 := am (Kd.N_elder' (pY70) (Kd.R_base ho0) hb)
              replace HL122_1 := am (Kd.V_elder' (rV HL122_1.out) (Kd.R_base ho0) hb)
              replace HL122_2 := am (Kd.V_elder' (rV HL122_2.out) (Kd.R_base ho0) hb)
              have HO126 := am (Kd.R_lower (Kd.R_new' (Kd.R_new' (Kd.R_newM (M := fun k_ => (w.heap.size ≤ k_)) ho0 (below_size (pY27)) (fun k_ h_ => h_)) (Kd.R_lt (pY67))) (Kd.R_lt (pY69))) (below_size (pY27)))
              replace HO_111000 := am (Kd.R_elder' (pY67) (Kd.R_base ho0) hb)
              replace HO_122000 := am (Kd.R_elder' (pY69) (Kd.R_base ho0) hb)
              replace BK101 := bB pY58 hb
              replace BK102 := bB pY59 hb
              replace BK110 := bB pY61 hb
              replace BK121 := bB pY62 hb
              replace HR122_1 := am (Kd.C_below (by repeat (first | (with_reducible exact HR122_1.1) | (with_reducible refine Kd.C_alloc ?_ _) | (with_reducible refine Kd.C_drewN ?_ _) | (with_reducible refine Kd.C_drew ?_) | exact HR122_1.1)) hb)
              replace HR122_2 := am (Kd.C_below (by repeat (first | (with_reducible exact HR122_2.1) | (with_reducible refine Kd.C_alloc ?_ _) | (with_reducible refine Kd.C_drewN ?_ _) | (with_reducible refine Kd.C_drew ?_) | exact HR122_2.1)) hb)
              replace HB := bS pY27 hb
              (try clear hb)
              (try clear hb2)
              (try clear hk)
              (try clear hi)
              (try clear ho0)
              have p85 : 0 ≤ (t111 : Int) := of_decide_eq_true (pY82)
              have q85 : (t111 : Int) < ((x122001_1.length : Int) : Int) := of_decide_eq_true (pY82)
              obtain ⟨go85, co85, eo85, gb85, gl85, cl85, HG85⟩ := Kd.N_form HO_122001.1 (by omega)
              (first | cases eo85 | (injection eo85 with ea_ en_ ec_; (first | subst ea_ | (injection ea_ with ea_; subst ea_)); subst ec_; clear en_))
              have GB85 := am gb85
              have GG85 := am HG85
              clear gb85 gl85 HG85
              (first | simp only [add_plain] at hx122_0 | skip)
              (first | simp only [add_plain] at hx122_1 | skip)
              (first | simp only [add_plain] at hx122_2 | skip)
              obtain ⟨ce85, hcl85, hM85, hcc85, hfr85⟩ := Kd.N_elem HO_122001.1 z56 (t111 : Int) p85 q85
              obtain ⟨ua85_1, uc85_1, ua85_2, uc85_2, rfl, ul85_1, ge85_1, ul85_2, ge85_2⟩ := k56_openF hM85
              have hx85_0 : World.cell? _ ⟨go85, (t111 : Int).toNat * 3, none⟩ = some (.string ((rd_T56 x122001_1 t111).f0)) := hcc85 0 _ rfl
              have hx85_1 : World.cell? _ ⟨go85, (t111 : Int).toNat * 3 + 1, none⟩ = some (.slice ua85_1 ((rd_T56 x122001_1 t111).f1).length uc85_1) := hcc85 1 _ rfl
              have hx85_2 : World.cell? _ ⟨go85, (t111 : Int).toNat * 3 + 2, none⟩ = some (.slice ua85_2 ((rd_T56 x122001_1 t111).f2).length uc85_2) := hcc85 2 _ rfl
              have hf85_0 : World.frozen? _ ⟨go85, (t111 : Int).toNat * 3, none⟩ = false := hfr85 0
              have hf85_1 : World.frozen? _ ⟨go85, (t111 : Int).toNat * 3 + 1, none⟩ = false := hfr85 1
              have hf85_2 : World.frozen? _ ⟨go85, (t111 : Int).toNat * 3 + 2, none⟩ = false := hfr85 2
              clear hcl85 hcc85 hfr85 hM85
              replace p85 := eq_true p85
              replace q85 := eq_true q85
              have HX89 := am (show Kd.N k56 56 _ w.heap.size (fun k_ => (w.heap.size ≤ k_) ∧ some k_ ≠ (.slice Ao61 t104.length co61 : Value).ownBlock ∧ some k_ ≠ (u111001 : Value).ownBlock ∧ some k_ ≠ (.slice Ao74 t115.length co74 : Value).ownBlock ∧ some k_ ≠ (v125 : Value).ownBlock ∧ k_ ≠ gb101 ∧ k_ ≠ gb102 ∧ k_ ≠ gb110 ∧ k_ ≠ gb121) (.slice (some ⟨go85, 0, none⟩) x122001_1.length co87) x122001_1 from (Kd.N_mono (HO_122001.1) (fun k_ hk => ⟨hk.1.1, ⟨hk.1.2.1, ⟨hk.1.2.2.1, ⟨hk.1.2.2.2.1, ⟨hk.2, ⟨hk.1.2.2.2.2.1, ⟨hk.1.2.2.2.2.2.1, ⟨hk.1.2.2.2.2.2.2.1, hk.1.2.2.2.2.2.2.2⟩⟩⟩⟩⟩⟩⟩⟩)))
              replace HX89 := am (show Kd.N k56 56 _ w.heap.size (fun k_ => (w.heap.size ≤ k_) ∧ some k_ ≠ (.slice Ao61 t104.length co61 : Value).ownBlock ∧ some k_ ≠ (u111001 : Value).ownBlock ∧ some k_ ≠ (.slice Ao74 t115.length co74 : Value).ownBlock ∧ k_ ≠ gb101 ∧ k_ ≠ gb102 ∧ k_ ≠ gb110 ∧ k_ ≠ gb121) (.slice (some ⟨go85, 0, none⟩) x122001_1.length co87) x122001_1 from Kd.N_mono HX89.out (fun k_ hk => ⟨hk.1, ⟨hk.2.1, ⟨hk.2.2.1, ⟨hk.2.2.2.1, ⟨hk.2.2.2.2.2.1, ⟨hk.2.2.2.2.2.2.1, ⟨hk.2.2.2.2.2.2.2.1, hk.2.2.2.2.2.2.2.2⟩⟩⟩⟩⟩⟩⟩))
              obtain ⟨ce89, hcl89, hM89, hcc89, hfr89⟩ := Kd.N_elem HX89.out z56 (t111 : Int) (of_decide_eq_true (pY82)) (by have h_ : (t111 : Int) < ((x122001_1.length : Int) : Int) := of_decide_eq_true (pY82); first | exact h_ | (have e_ := (Kd.N_reads' HO_122001.1).1; omega) | simpa using h_)
              obtain ⟨ua89_1, uc89_1, ua89_2, uc89_2, rfl, ul89_1, ge89_1, ul89_2, ge89_2⟩ := k56_openF hM89
              have HP89 := (Kd.N_seg HX89.out (t111 : Int) (of_decide_eq_true (pY82)) (by have h_ : (t111 : Int) < ((x122001_1.length : Int) : Int) := of_decide_eq_true (pY82); first | exact h_ | (have e_ := (Kd.N_reads' HO_122001.1).1; omega) | simpa using h_) (seg := [v125]) (j := 1) hcl89 hcc89 (show 2 ≤ 3 from by decide) (x' := (⟨(rd_T56 x122001_1 t111).f0, t124, (rd_T56 x122001_1 t111).f2⟩ : S56)) (k56_mkF1 _ _ (⟨(rd_T56 x122001_1 t111).f0, t124, (rd_T56 x122001_1 t111).f2⟩ : S56) (Kd.R_mono (ok' := (fun k_ => ((fun k_ => (w.heap.size ≤ k_) ∧ some k_ ≠ (.slice Ao61 t104.length co61 : Value).ownBlock ∧ some k_ ≠ (u111001 : Value).ownBlock ∧ some k_ ≠ (.slice Ao74 t115.length co74 : Value).ownBlock ∧ k_ ≠ gb101 ∧ k_ ≠ gb102 ∧ k_ ≠ gb110 ∧ k_ ≠ gb121)) k_ ∧ k_ ≠ go85)) (Kd.R_types (Kd.R_types (Kd.R_types (Kd.R_types (Kd.R_apart' (Kd.R_apart' (HO126.1) (Kd.N_typed HO_111001.1) (by decide)) (Kd.N_typed HO_122001.1) (by decide)) BK101.1 (by decide)) BK102.1 (by decide)) BK110.1 (by decide)) BK121.1 (by decide)) (fun k_ hk => ⟨⟨hk.1.1.1.1.1.1.1.1.1, ⟨hk.1.1.1.1.1.1.1.2, ⟨hk.1.1.1.1.1.2, ⟨hk.1.1.1.1.1.1.2, ⟨hk.1.1.1.2, ⟨hk.1.1.2, ⟨hk.1.2, hk.2⟩⟩⟩⟩⟩⟩⟩, fun e_ => (hk.1.1.1.1.2) (by rw [e_]; rfl)⟩)) ul89_2 ge89_2) (fun _ hk => hk)).1
              rw [← Ny127.out] at HP89
              have HQ89 := am HP89
              clear hcl89 hcc89 hfr89 hM89 HP89
              refine hK.out _ _ ⟨(blk_cell BK121.1 0).trans rfl, (blk_cell BK121.1 1).trans rfl, HS2_, HS3_, HS4_, (hX HB hw123_0)⟩ (fun hHeld => ?_)
              clear hK K
              refine nM ?_
              refine pU 14 (some 61) ?_
              refine pU 15 (some 62) ?_
              refine last_ (i := 16) (N := none) (bz 17 131071) rfl rfl (one_of HT_.out (by kernel_rfl)) (by decide) (fun K hK => ?_)
              refine skip_ (w1 := (w88.setCell ⟨go85, (t111 : Int).toNat * 3 + 1, none⟩ (v125))) (by rfl) rfl ?_ ?_
              skip
              ·obtain ⟨Az_, cz_, ez_⟩ := Kd.R_slice HO126.1
               subst ez_
               go_simp
               (try rfl)
              refine hK.out _ _ ?_
              clear hK K
              refine done_ (done_of HT_.out (by kernel_rfl)) ?_
              try go_wp2
              go_roundg k1
              case measure => have := HK1.out; omega
              case rel => exact ⟨(wrap64 (x11_1 + 1)), (x111001_1), (y127), (u111001), (.slice (some ⟨go85, 0, none⟩) x122001_1.length co87), (pY83), H', ⟨by have := HK1.out; omega⟩, ⟨by refine rR ?_; exact Kd.R_mono (Kd.R_far (p := ⟨go85, (t111 : Int).toNat * 3 + 1, none⟩) (Kd.R_types HO_111000.1 GG85.out (by decide)) (fun _ hk => hk.2) (v125)) (fun _ hk => ⟨hk.1.1.1, hk.1.1.2⟩)⟩, ⟨by refine rN ?_; exact Kd.N_mono (Kd.N_far (p := ⟨go85, (t111 : Int).toNat * 3 + 1, none⟩) (Kd.N_mono HO_111001.1 (fun k_ hk => (⟨hk, fun e_ => hk.1.2.2.2.1 (by rw [e_]; rfl)⟩ : _ ∧ k_ ≠ go85))) (fun _ hk => hk.2) (v125)) (fun _ hk => ⟨hk.1.1.1, ⟨hk.1.1.2.1, ⟨hk.1.1.2.2.1, ⟨hk.1.1.2.2.2.1, ⟨hk.1.1.2.2.2.2.1, ⟨hk.1.1.2.2.2.2.2.1, ⟨hk.1.1.2.2.2.2.2.2.1, hk.1.1.2.2.2.2.2.2.2⟩⟩⟩⟩⟩⟩⟩)⟩, ⟨by refine rR ?_; exact Kd.R_mono (Kd.R_far (p := ⟨go85, (t111 : Int).toNat * 3 + 1, none⟩) (Kd.R_types HO_122000.1 GG85.out (by decide)) (fun _ hk => hk.2) (v125)) (fun _ hk => ⟨hk.1.1.1, hk.1.1.2⟩)⟩, ⟨rN HQ89.out⟩, ⟨by (with_reducible repeat (first | refine blk_drewN ?_ _ | refine blk_drew ?_ | refine blk_alloc ?_ _)); refine blk_far ?_ (by have h_ := Kd.N_away HO_122001.1 (fun _ hk => by first | exact hk.2.2.2.2.1 | exact hk.1.2.2.2.2.1); intro e_; exact h_ (by rw [e_]; rfl)) _; (with_reducible repeat (first | refine blk_drewN ?_ _ | refine blk_drew ?_ | refine blk_alloc ?_ _)); exact BK101.1⟩, ⟨by (with_reducible repeat (first | refine blk_drewN ?_ _ | refine blk_drew ?_ | refine blk_alloc ?_ _)); refine blk_far ?_ (by have h_ := Kd.N_away HO_122001.1 (fun _ hk => by first | exact hk.2.2.2.2.2.1 | exact hk.1.2.2.2.2.2.1); intro e_; exact h_ (by rw [e_]; rfl)) _; (with_reducible repeat (first | refine blk_drewN ?_ _ | refine blk_drew ?_ | refine blk_alloc ?_ _)); exact BK102.1⟩, ⟨by (with_reducible repeat (first | refine blk_drewN ?_ _ | refine blk_drew ?_ | refine blk_alloc ?_ _)); refine blk_far ?_ (by have h_ := Kd.N_away HO_122001.1 (fun _ hk => by first | exact hk.2.2.2.2.2.2.1 | exact hk.1.2.2.2.2.2.2.1); intro e_; exact h_ (by rw [e_]; rfl)) _; (with_reducible repeat (first | refine blk_drewN ?_ _ | refine blk_drew ?_ | refine blk_alloc ?_ _)); exact BK110.1⟩, ⟨by (with_reducible repeat (first | refine blk_drewN ?_ _ | refine blk_drew ?_ | refine blk_alloc ?_ _)); refine blk_far ?_ (by have h_ := Kd.N_away HO_122001.1 (fun _ hk => by first | exact hk.2.2.2.2.2.2.2 | exact hk.1.2.2.2.2.2.2.2); intro e_; exact h_ (by rw [e_]; rfl)) _; (with_reducible repeat (first | refine blk_drewN ?_ _ | refine blk_drew ?_ | refine blk_alloc ?_ _)); exact BK121.1⟩, ⟨by repeat (first | (with_reducible first | exact HB.1 | apply below_alloc | apply pw_below_drewN | apply below_drew1 | refine below_set ?_ GB85.out | refine below_set ?_ GE101.1 | refine below_set ?_ GE102.1 | refine below_set ?_ GE110.1 | refine below_set ?_ GE121.1) | exact HB.1)⟩⟩
            ·rw [if_neg c83] at H
             exact absurd H (by simp)
           ·rw [if_neg c82] at H
            exact absurd H (by simp)
          ·rw [if_neg c81] at H
           exact absurd H (by simp)
         ·rw [if_neg c80] at H
          have c80b0 : decide (x11_1 < (l2.length : Int)) = false := decide_eq_false c80
          clear c80
          obtain ⟨t128, A90, H⟩ := bd H
          by_cases c91 : t128 = true
          ·subst c91
           replace H := iT H
           obtain ⟨t129, A92, H⟩ := bd H
           by_cases c93 : t129 = true
           ·subst c93
            replace H := iT H
            obtain ⟨⟨t130, t133⟩, A94, H⟩ := bd H
            dsimp only at H
            simp only [Option.some.injEq, Prod.mk.injEq] at H
            obtain ⟨rfl, rfl, rfl⟩ := H
            have hnb95 := NB101_102.1
            have hnc95 := NB102_101.1
            have hnb96 := NB101_110.1
            have hnc96 := NB110_101.1
            have hnb97 := NB101_121.1
            have hnc97 := NB121_101.1
            obtain ⟨hcz98_0, hcz98_1, hfz98_0, hfz98_1⟩ := cz2 BK101
            go_wp2_with (first | ((with_reducible refine gate_callee (f := 35) rfl ?_); refine goesL_ (some 64) rfl rfl Try.func35 (by kernel_rfl) rfl #[.agg #[.slice A0_0 l0_0.length c0_0, .slice (some ad112) l0_1.length c0_1]] rfl (pY54) ?_; (with_reducible refine (spec_ShareSafe.calls k1 _ _ l0_0 _ _ l0_1 true _ ?side1 ?side2 ?side3 ?side4 A90.out).mono ?_); (case side1 => exact pC (Kd.C_below HR0_0.1 HB.1)); (case side2 => exact HC0_0.1); (case side3 => exact pC (Kd.C_below HR0_1.1 HB.1)); (case side4 => exact HC0_1.1); rintro e w99 ⟨rfl, hb⟩; refine ⟨_, rfl, ?_⟩; replace HO_111000 := am (Kd.R_below (pY67) hb); replace HO_111001 := am (Kd.N_below (pY68) hb); replace HO_122000 := am (Kd.R_below (pY69) hb); replace HO_122001 := am (Kd.N_below (pY70) hb); replace BK101 := bB pY58 hb; replace BK102 := bB pY59 hb; replace BK110 := bB pY61 hb; replace BK121 := bB pY62 hb; replace HB := bS pY27 hb; (try clear hb); (try clear hb2); (try clear hk); (try clear hi); have hnb100 := NB121_102.1; have hnc100 := NB102_121.1; have hnb101 := NB121_110.1; have hnc101 := NB110_121.1; obtain ⟨hcz102_0, hcz102_1, hfz102_0, hfz102_1⟩ := cz2 BK121; obtain ⟨Ao103, co103, eo103⟩ := Kd.N_slice HO_122001.1; subst eo103) | (go_at_call 35; refine cM (spec_ShareSafe.calls k1 _ _ t115 _ _ x122001_1 true _ (pC (Kd.R_reads' HO_122000.1).2.2) ((Kd.R_reads' HO_122000.1).2.1) (pC (Kd.N_reads' HO_122001.1).2.2) ((Kd.N_reads' HO_122001.1).2.1) A92.out) ?_; rintro w104 hb; replace HO_111000 := am (Kd.R_below (pY67) hb); replace HO_111001 := am (Kd.N_below (pY68) hb); replace HO_122000 := am (Kd.R_below (pY69) hb); replace HO_122001 := am (Kd.N_below (pY70) hb); replace BK101 := bB pY58 hb; replace BK102 := bB pY59 hb; replace BK110 := bB pY61 hb; replace BK121 := bB pY62 hb; replace HB := bS pY27 hb; (try clear hb); (try clear hb2); (try clear hk); (try clear hi); obtain ⟨hcz105_0, hcz105_1, hfz105_0, hfz105_1⟩ := cz2 BK121) | ((with_reducible refine gate_callee (f := 89) rfl ?_); refine goesL_ (some 72) rfl rfl Try.func89 (by kernel_rfl) rfl #[.agg #[.slice Ao74 t115.length co74, .slice Ao103 x122001_1.length co103]] rfl (pY54) ?_; (with_reducible refine (spec_l1Copy.calls k1 _ _ t115 _ _ x122001_1 t130 t133 _ ?side1 ?side2 ?side3 ?side4 A94.out).mono ?_); (case side1 => exact pC (Kd.R_reads' HO_122000.1).2.2); (case side2 => exact (Kd.R_reads' HO_122000.1).2.1); (case side3 => exact pC (Kd.N_reads' HO_122001.1).2.2); (case side4 => exact (Kd.N_reads' HO_122001.1).2.1); rintro e w106 ⟨v131, v134, rfl, ho0, ho1, hb⟩; refine ⟨_, rfl, ?_⟩; have HO132 := am (Kd.R_lower (Kd.R_new' (Kd.R_new' (Kd.R_newM (M := fun k_ => (w.heap.size ≤ k_)) ho0 (below_size (pY27)) (fun k_ h_ => h_)) (Kd.R_lt (pY67))) (Kd.R_lt (pY69))) (below_size (pY27))); have HO135 := am (Kd.N_lower (Kd.N_mono (ok' := fun k_ => (w.heap.size ≤ k_) ∧ some k_ ≠ (v131 : Value).ownBlock ∧ some k_ ≠ (.slice Ao61 t104.length co61 : Value).ownBlock ∧ some k_ ≠ (u111001 : Value).ownBlock ∧ some k_ ≠ (.slice Ao74 t115.length co74 : Value).ownBlock ∧ some k_ ≠ (.slice Ao103 x122001_1.length co103 : Value).ownBlock ∧ k_ ≠ gb101 ∧ k_ ≠ gb102 ∧ k_ ≠ gb110 ∧ k_ ≠ gb121) (Kd.S_N (Kd.S_bound ho1)) (fun k_ hk_ => ⟨(Nat.le_trans (below_size (pY27)) hk_.2.1), hk_.1, (Kd.fresh' (Kd.R_lt (pY67)) k_ hk_.2.1), (Kd.fresh' (Kd.N_lt (pY68)) k_ hk_.2.1), (Kd.fresh' (Kd.R_lt (pY69)) k_ hk_.2.1), (Kd.fresh' (Kd.N_lt (pY70)) k_ hk_.2.1), (Kd.freshB (g := gb101) (o := .cells #[.slice A0_0 l0_0.length c0_0, .slice (some ad112) l0_1.length c0_1] 31 (0, 0)) (pY58) k_ hk_.2.1), (Kd.freshB (g := gb102) (o := .cells #[.slice none 0 0, .slice none 0 0] 31 (0, 0)) (pY59) k_ hk_.2.1), (Kd.freshB (g := gb110) (o := .cells #[.slice Ao61 t104.length co61, u111001] 31 (0, 0)) (pY61) k_ hk_.2.1), (Kd.freshB (g := gb121) (o := .cells #[.slice Ao74 t115.length co74, .slice Ao103 x122001_1.length co103] 31 (0, 0)) (pY62) k_ hk_.2.1)⟩)) (below_size (pY27))); replace HO_111000 := am (Kd.R_elder' (pY67) (Kd.R_base ho0) hb); replace HO_111001 := am (Kd.N_mono (Kd.N_told (Kd.N_told (Kd.N_old (pY68) hb) (Kd.R_base ho0)) (pY81)) (fun _ h_ => h_.1)); replace HO_122000 := am (Kd.R_elder' (pY69) (Kd.R_base ho0) hb); replace HO_122001 := am (Kd.N_mono (Kd.N_told (Kd.N_told (Kd.N_old (pY70) hb) (Kd.R_base ho0)) (pY81)) (fun _ h_ => h_.1)); replace BK101 := bB pY58 hb; replace BK102 := bB pY59 hb; replace BK110 := bB pY61 hb; replace BK121 := bB pY62 hb; replace HB := bS pY27 hb; (try clear hb); (try clear hb2); (try clear hk); (try clear hi); (try clear ho0); (try clear ho1); obtain ⟨Ao107, co107, eo107⟩ := Kd.R_slice HO132.1; subst eo107; have hnb108 := NB102_110.1; have hnc108 := NB110_102.1; obtain ⟨hcz109_0, hcz109_1, hfz109_0, hfz109_1⟩ := cz2 BK102; obtain ⟨Ao110, co110, eo110⟩ := Kd.N_slice HO135.1; subst eo110))
            refine bodyPost_ret (results_ct rfl _ _ gb102 31 #[.slice Ao107 t130.length co107, .slice Ao110 t133.length co110] (0, 0) _ rfl (by (with_reducible repeat (first | refine blk_drewN ?_ _ | refine blk_drew ?_ | refine blk_alloc ?_ _)); refine blk_put (cs := #[.slice Ao107 t130.length co107, .slice none 0 0]) ?_ 1 _ rfl; (with_reducible repeat (first | refine blk_drewN ?_ _ | refine blk_drew ?_ | refine blk_alloc ?_ _)); refine blk_put (cs := #[.slice none 0 0, .slice none 0 0]) ?_ 0 _ rfl; (with_reducible repeat (first | refine blk_drewN ?_ _ | refine blk_drew ?_ | refine blk_alloc ?_ _)); exact BK102.1) Try.underlying31 rfl (by kernel_rfl)) rfl ?_
            exact ⟨_, _, by first | rfl | (simp [errW_none, errW_some] <;> rfl) | (simp [*, errW_none, errW_some] <;> rfl), by refine rR ?_; exact Kd.R_mono (Kd.R_far (p := ⟨gb102, 1, none⟩) (Kd.R_far (p := ⟨gb102, 0, none⟩) (Kd.R_types HO132.1 BK102.1 (by decide)) (fun _ hk => hk.2) (.slice Ao107 t130.length co107)) (fun _ hk => hk.2) (.slice Ao110 t133.length co110)) (fun _ hk => hk.1.1.1.1), by refine rN ?_; exact Kd.N_mono (Kd.N_far (p := ⟨gb102, 1, none⟩) (Kd.N_far (p := ⟨gb102, 0, none⟩) (Kd.N_mono HO135.1 (fun k_ hk => (⟨hk, hk.2.2.2.2.2.2.2.1⟩ : _ ∧ k_ ≠ gb102))) (fun _ hk => hk.2) (.slice Ao107 t130.length co107)) (fun _ hk => hk.2) (.slice Ao110 t133.length co110)) (fun _ hk => ⟨hk.1.1, hk.1.2.1⟩), pY27⟩
           ·replace c93 := Bool.eq_false_iff.mpr c93
            subst c93
            replace H := iF H
            simp only [Option.some.injEq, Prod.mk.injEq] at H
            obtain ⟨rfl, rfl, rfl⟩ := H
            have hnb111 := NB101_102.1
            have hnc111 := NB102_101.1
            have hnb112 := NB101_110.1
            have hnc112 := NB110_101.1
            have hnb113 := NB101_121.1
            have hnc113 := NB121_101.1
            obtain ⟨hcz114_0, hcz114_1, hfz114_0, hfz114_1⟩ := cz2 BK101
            go_wp2_with (first | ((with_reducible refine gate_callee (f := 35) rfl ?_); refine goesL_ (some 64) rfl rfl Try.func35 (by kernel_rfl) rfl #[.agg #[.slice A0_0 l0_0.length c0_0, .slice (some ad112) l0_1.length c0_1]] rfl (pY54) ?_; (with_reducible refine (spec_ShareSafe.calls k1 _ _ l0_0 _ _ l0_1 true _ ?side1 ?side2 ?side3 ?side4 A90.out).mono ?_); (case side1 => exact pC (Kd.C_below HR0_0.1 HB.1)); (case side2 => exact HC0_0.1); (case side3 => exact pC (Kd.C_below HR0_1.1 HB.1)); (case side4 => exact HC0_1.1); rintro e w115 ⟨rfl, hb⟩; refine ⟨_, rfl, ?_⟩; replace HO_111000 := am (Kd.R_below (pY67) hb); replace HO_111001 := am (Kd.N_below (pY68) hb); replace HO_122000 := am (Kd.R_below (pY69) hb); replace HO_122001 := am (Kd.N_below (pY70) hb); replace BK101 := bB pY58 hb; replace BK102 := bB pY59 hb; replace BK110 := bB pY61 hb; replace BK121 := bB pY62 hb; replace HB := bS pY27 hb; (try clear hb); (try clear hb2); (try clear hk); (try clear hi); have hnb116 := NB121_102.1; have hnc116 := NB102_121.1; have hnb117 := NB121_110.1; have hnc117 := NB110_121.1; obtain ⟨hcz118_0, hcz118_1, hfz118_0, hfz118_1⟩ := cz2 BK121; obtain ⟨Ao119, co119, eo119⟩ := Kd.N_slice HO_122001.1; subst eo119) | (go_at_call 35; refine cM (spec_ShareSafe.calls k1 _ _ t115 _ _ x122001_1 false _ (pC (Kd.R_reads' HO_122000.1).2.2) ((Kd.R_reads' HO_122000.1).2.1) (pC (Kd.N_reads' HO_122001.1).2.2) ((Kd.N_reads' HO_122001.1).2.1) A92.out) ?_; rintro w120 hb; replace HO_111000 := am (Kd.R_below (pY67) hb); replace HO_111001 := am (Kd.N_below (pY68) hb); replace HO_122000 := am (Kd.R_below (pY69) hb); replace HO_122001 := am (Kd.N_below (pY70) hb); replace BK101 := bB pY58 hb; replace BK102 := bB pY59 hb; replace BK110 := bB pY61 hb; replace BK121 := bB pY62 hb; replace HB := bS pY27 hb; (try clear hb); (try clear hb2); (try clear hk); (try clear hi); have hnb121 := NB110_102.1; have hnc121 := NB102_110.1; obtain ⟨hcz122_0, hcz122_1, hfz122_0, hfz122_1⟩ := cz2 BK110; obtain ⟨hcz123_0, hcz123_1, hfz123_0, hfz123_1⟩ := cz2 BK102; obtain ⟨Ao124, co124, eo124⟩ := Kd.N_slice HO_111001.1; subst eo124))
            refine bodyPost_ret (results_ct rfl _ _ gb102 31 #[.slice Ao61 t104.length co61, .slice Ao124 x111001_1.length co124] (0, 0) _ rfl (by (with_reducible repeat (first | refine blk_drewN ?_ _ | refine blk_drew ?_ | refine blk_alloc ?_ _)); refine blk_put (cs := #[.slice Ao61 t104.length co61, .slice none 0 0]) ?_ 1 _ rfl; (with_reducible repeat (first | refine blk_drewN ?_ _ | refine blk_drew ?_ | refine blk_alloc ?_ _)); refine blk_put (cs := #[.slice none 0 0, .slice none 0 0]) ?_ 0 _ rfl; (with_reducible repeat (first | refine blk_drewN ?_ _ | refine blk_drew ?_ | refine blk_alloc ?_ _)); exact BK102.1) Try.underlying31 rfl (by kernel_rfl)) rfl ?_
            exact ⟨_, _, by first | rfl | (simp [errW_none, errW_some] <;> rfl) | (simp [*, errW_none, errW_some] <;> rfl), by refine rR ?_; exact Kd.R_mono (Kd.R_far (p := ⟨gb102, 1, none⟩) (Kd.R_far (p := ⟨gb102, 0, none⟩) (Kd.R_types HO_111000.1 BK102.1 (by decide)) (fun _ hk => hk.2) (.slice Ao61 t104.length co61)) (fun _ hk => hk.2) (.slice Ao124 x111001_1.length co124)) (fun _ hk => hk.1.1), by refine rN ?_; exact Kd.N_mono (Kd.N_far (p := ⟨gb102, 1, none⟩) (Kd.N_far (p := ⟨gb102, 0, none⟩) (Kd.N_mono HO_111001.1 (fun k_ hk => (⟨hk, hk.2.2.2.2.2.1⟩ : _ ∧ k_ ≠ gb102))) (fun _ hk => hk.2) (.slice Ao61 t104.length co61)) (fun _ hk => hk.2) (.slice Ao124 x111001_1.length co124)) (fun _ hk => ⟨hk.1.1, hk.1.2.1⟩), pY27⟩
          ·replace c91 := Bool.eq_false_iff.mpr c91
           subst c91
           replace H := iF H
           obtain ⟨⟨t136, t139⟩, A125, H⟩ := bd H
           dsimp only at H
           simp only [Option.some.injEq, Prod.mk.injEq] at H
           obtain ⟨rfl, rfl, rfl⟩ := H
           have hnb126 := NB101_102.1
           have hnc126 := NB102_101.1
           have hnb127 := NB101_110.1
           have hnc127 := NB110_101.1
           have hnb128 := NB101_121.1
           have hnc128 := NB121_101.1
           obtain ⟨hcz129_0, hcz129_1, hfz129_0, hfz129_1⟩ := cz2 BK101
           go_wp2_with (first | ((with_reducible refine gate_callee (f := 35) rfl ?_); refine goesL_ (some 64) rfl rfl Try.func35 (by kernel_rfl) rfl #[.agg #[.slice A0_0 l0_0.length c0_0, .slice (some ad112) l0_1.length c0_1]] rfl (pY54) ?_; (with_reducible refine (spec_ShareSafe.calls k1 _ _ l0_0 _ _ l0_1 false _ ?side1 ?side2 ?side3 ?side4 A90.out).mono ?_); (case side1 => exact pC (Kd.C_below HR0_0.1 HB.1)); (case side2 => exact HC0_0.1); (case side3 => exact pC (Kd.C_below HR0_1.1 HB.1)); (case side4 => exact HC0_1.1); rintro e w130 ⟨rfl, hb⟩; refine ⟨_, rfl, ?_⟩; replace HO_111000 := am (Kd.R_below (pY67) hb); replace HO_111001 := am (Kd.N_below (pY68) hb); replace HO_122000 := am (Kd.R_below (pY69) hb); replace HO_122001 := am (Kd.N_below (pY70) hb); replace BK101 := bB pY58 hb; replace BK102 := bB pY59 hb; replace BK110 := bB pY61 hb; replace BK121 := bB pY62 hb; replace HB := bS pY27 hb; (try clear hb); (try clear hb2); (try clear hk); (try clear hi); have hnb131 := NB121_102.1; have hnc131 := NB102_121.1; have hnb132 := NB121_110.1; have hnc132 := NB110_121.1; obtain ⟨hcz133_0, hcz133_1, hfz133_0, hfz133_1⟩ := cz2 BK121; obtain ⟨Ao134, co134, eo134⟩ := Kd.N_slice HO_122001.1; subst eo134) | ((with_reducible refine gate_callee (f := 89) rfl ?_); refine goesL_ (some 72) rfl rfl Try.func89 (by kernel_rfl) rfl #[.agg #[.slice Ao74 t115.length co74, .slice Ao134 x122001_1.length co134]] rfl (pY54) ?_; (with_reducible refine (spec_l1Copy.calls k1 _ _ t115 _ _ x122001_1 t136 t139 _ ?side1 ?side2 ?side3 ?side4 A125.out).mono ?_); (case side1 => exact pC (Kd.R_reads' HO_122000.1).2.2); (case side2 => exact (Kd.R_reads' HO_122000.1).2.1); (case side3 => exact pC (Kd.N_reads' HO_122001.1).2.2); (case side4 => exact (Kd.N_reads' HO_122001.1).2.1); rintro e w135 ⟨v137, v140, rfl, ho0, ho1, hb⟩; refine ⟨_, rfl, ?_⟩; have HO138 := am (Kd.R_lower (Kd.R_new' (Kd.R_new' (Kd.R_newM (M := fun k_ => (w.heap.size ≤ k_)) ho0 (below_size (pY27)) (fun k_ h_ => h_)) (Kd.R_lt (pY67))) (Kd.R_lt (pY69))) (below_size (pY27))); have HO141 := am (Kd.N_lower (Kd.N_mono (ok' := fun k_ => (w.heap.size ≤ k_) ∧ some k_ ≠ (v137 : Value).ownBlock ∧ some k_ ≠ (.slice Ao61 t104.length co61 : Value).ownBlock ∧ some k_ ≠ (u111001 : Value).ownBlock ∧ some k_ ≠ (.slice Ao74 t115.length co74 : Value).ownBlock ∧ some k_ ≠ (.slice Ao134 x122001_1.length co134 : Value).ownBlock ∧ k_ ≠ gb101 ∧ k_ ≠ gb102 ∧ k_ ≠ gb110 ∧ k_ ≠ gb121) (Kd.S_N (Kd.S_bound ho1)) (fun k_ hk_ => ⟨(Nat.le_trans (below_size (pY27)) hk_.2.1), hk_.1, (Kd.fresh' (Kd.R_lt (pY67)) k_ hk_.2.1), (Kd.fresh' (Kd.N_lt (pY68)) k_ hk_.2.1), (Kd.fresh' (Kd.R_lt (pY69)) k_ hk_.2.1), (Kd.fresh' (Kd.N_lt (pY70)) k_ hk_.2.1), (Kd.freshB (g := gb101) (o := .cells #[.slice A0_0 l0_0.length c0_0, .slice (some ad112) l0_1.length c0_1] 31 (0, 0)) (pY58) k_ hk_.2.1), (Kd.freshB (g := gb102) (o := .cells #[.slice none 0 0, .slice none 0 0] 31 (0, 0)) (pY59) k_ hk_.2.1), (Kd.freshB (g := gb110) (o := .cells #[.slice Ao61 t104.length co61, u111001] 31 (0, 0)) (pY61) k_ hk_.2.1), (Kd.freshB (g := gb121) (o := .cells #[.slice Ao74 t115.length co74, .slice Ao134 x122001_1.length co134] 31 (0, 0)) (pY62) k_ hk_.2.1)⟩)) (below_size (pY27))); replace HO_111000 := am (Kd.R_elder' (pY67) (Kd.R_base ho0) hb); replace HO_111001 := am (Kd.N_mono (Kd.N_told (Kd.N_told (Kd.N_old (pY68) hb) (Kd.R_base ho0)) (pY81)) (fun _ h_ => h_.1)); replace HO_122000 := am (Kd.R_elder' (pY69) (Kd.R_base ho0) hb); replace HO_122001 := am (Kd.N_mono (Kd.N_told (Kd.N_told (Kd.N_old (pY70) hb) (Kd.R_base ho0)) (pY81)) (fun _ h_ => h_.1)); replace BK101 := bB pY58 hb; replace BK102 := bB pY59 hb; replace BK110 := bB pY61 hb; replace BK121 := bB pY62 hb; replace HB := bS pY27 hb; (try clear hb); (try clear hb2); (try clear hk); (try clear hi); (try clear ho0); (try clear ho1); obtain ⟨Ao136, co136, eo136⟩ := Kd.R_slice HO138.1; subst eo136; have hnb137 := NB102_110.1; have hnc137 := NB110_102.1; obtain ⟨hcz138_0, hcz138_1, hfz138_0, hfz138_1⟩ := cz2 BK102; obtain ⟨Ao139, co139, eo139⟩ := Kd.N_slice HO141.1; subst eo139))
           refine bodyPost_ret (results_ct rfl _ _ gb102 31 #[.slice Ao136 t136.length co136, .slice Ao139 t139.length co139] (0, 0) _ rfl (by (with_reducible repeat (first | refine blk_drewN ?_ _ | refine blk_drew ?_ | refine blk_alloc ?_ _)); refine blk_put (cs := #[.slice Ao136 t136.length co136, .slice none 0 0]) ?_ 1 _ rfl; (with_reducible repeat (first | refine blk_drewN ?_ _ | refine blk_drew ?_ | refine blk_alloc ?_ _)); refine blk_put (cs := #[.slice none 0 0, .slice none 0 0]) ?_ 0 _ rfl; (with_reducible repeat (first | refine blk_drewN ?_ _ | refine blk_drew ?_ | refine blk_alloc ?_ _)); exact BK102.1) Try.underlying31 rfl (by kernel_rfl)) rfl ?_
           exact ⟨_, _, by first | rfl | (simp [errW_none, errW_some] <;> rfl) | (simp [*, errW_none, errW_some] <;> rfl), by refine rR ?_; exact Kd.R_mono (Kd.R_far (p := ⟨gb102, 1, none⟩) (Kd.R_far (p := ⟨gb102, 0, none⟩) (Kd.R_types HO138.1 BK102.1 (by decide)) (fun _ hk => hk.2) (.slice Ao136 t136.length co136)) (fun _ hk => hk.2) (.slice Ao139 t139.length co139)) (fun _ hk => hk.1.1.1.1), by refine rN ?_; exact Kd.N_mono (Kd.N_far (p := ⟨gb102, 1, none⟩) (Kd.N_far (p := ⟨gb102, 0, none⟩) (Kd.N_mono HO141.1 (fun k_ hk => (⟨hk, hk.2.2.2.2.2.2.2.1⟩ : _ ∧ k_ ≠ gb102))) (fun _ hk => hk.2) (.slice Ao136 t136.length co136)) (fun _ hk => hk.2) (.slice Ao139 t139.length co139)) (fun _ hk => ⟨hk.1.1, hk.1.2.1⟩), pY27⟩
     ·replace c29 := Bool.eq_false_iff.mpr c29
      subst c29
      replace H := iF H
      simp only [Option.some.injEq, Prod.mk.injEq] at H
      obtain ⟨rfl, rfl, rfl⟩ := H
      go_enter Try.func61, Try.ntmps61
      go_wp2_with (first | ((with_reducible refine gate_dst (N := 3) rfl ?_); refine box_event ?hg (N := 3) ?hd (cs := #[.slice A0_0 l0_0.length c0_0, .slice A0_1 l0_1.length c0_1]) (t := 31) ?hr ?_; (case hd => rfl); (case hg => rfl); (case hr => (try (obtain ⟨Az_, cz_, ez_⟩ := Kd.R_slice HO126.1; subst ez_)); first | (go_simp; done) | (go_simp; rfl)); intro gb101 hg w140 hbox hb; have BK101 := am (hbox); have GW101 := am (pY52 : w.heap.size ≤ gb101); have GE101 := am (pY52 : w.heap.size ≤ gb101); replace HB := bS pY55 hb; clear hb hbox hg) | ((with_reducible refine gate_dst (N := 6) rfl ?_); refine box_event ?hg (N := 6) ?hd (cs := #[.slice none 0 0, .slice none 0 0]) (t := 31) ?hr ?_; (case hd => rfl); (case hg => rfl); (case hr => (try (obtain ⟨Az_, cz_, ez_⟩ := Kd.R_slice HO126.1; subst ez_)); first | (go_simp; done) | (go_simp; rfl)); intro gb102 hg w141 hbox hb; have BK102 := am (hbox); have GW102 := am (pY45 : w.heap.size ≤ gb102); have GE102 := am (pY45 : w.heap.size ≤ gb102); replace HB := bS pY53 hb; have NB101_102 := nL pY58 hg; have NB102_101 := nG pY58 hg; replace BK101 := bB pY58 hb; clear hb hbox hg; have hnb142 := NB101_102.1; have hnc142 := NB102_101.1; obtain ⟨hcz143_0, hcz143_1, hfz143_0, hfz143_1⟩ := cz2 BK101) | ((with_reducible refine gate_callee (f := 22) rfl ?_); refine goesL_ (some 13) rfl rfl Try.func22 (by kernel_rfl) rfl #[.agg #[.slice A0_0 l0_0.length c0_0, .slice A0_1 l0_1.length c0_1]] rfl (pY54) ?_; (with_reducible refine (spec_ShareBookOk.calls k _ _ l0_0 _ _ l0_1 true _ ?side1 ?side2 ?side3 ?side4 A4.out).mono ?_); (case side1 => exact pC (Kd.C_below HR0_0.1 HB.1)); (case side2 => exact HC0_0.1); (case side3 => exact pC (Kd.C_below HR0_1.1 HB.1)); (case side4 => exact HC0_1.1); rintro e w144 ⟨rfl, hb⟩; refine ⟨_, rfl, ?_⟩; replace BK101 := bB pY58 hb; replace BK102 := bB pY59 hb; replace HB := bS pY46 hb; (try clear hb); (try clear hb2); (try clear hk); (try clear hi); obtain ⟨hcz145_0, hcz145_1, hfz145_0, hfz145_1⟩ := cz2 BK101) | ((with_reducible refine gate_callee (f := 89) rfl ?_); refine goesL_ (some 17) rfl rfl Try.func89 (by kernel_rfl) rfl #[.agg #[.slice A0_0 l0_0.length c0_0, .slice A0_1 l0_1.length c0_1]] rfl (pY54) ?_; (with_reducible refine (spec_l1Copy.calls k _ _ l0_0 _ _ l0_1 t104 t107 _ ?side1 ?side2 ?side3 ?side4 A6.out).mono ?_); (case side1 => exact pC (Kd.C_below HR0_0.1 HB.1)); (case side2 => exact HC0_0.1); (case side3 => exact pC (Kd.C_below HR0_1.1 HB.1)); (case side4 => exact HC0_1.1); rintro e w146 ⟨v105, v108, rfl, ho0, ho1, hb⟩; refine ⟨_, rfl, ?_⟩; have HO106 := am (Kd.R_lower (Kd.R_newM (M := fun k_ => (w.heap.size ≤ k_)) ho0 (below_size (pY46)) (fun k_ h_ => h_)) (below_size (pY46))); have HO109 := am (Kd.N_lower (Kd.N_mono (ok' := fun k_ => (w.heap.size ≤ k_) ∧ some k_ ≠ (v105 : Value).ownBlock ∧ k_ ≠ gb101 ∧ k_ ≠ gb102) (Kd.S_N (Kd.S_bound ho1)) (fun k_ hk_ => ⟨(Nat.le_trans (below_size (pY46)) hk_.2.1), hk_.1, (Kd.freshB (g := gb101) (o := .cells #[.slice A0_0 l0_0.length c0_0, .slice A0_1 l0_1.length c0_1] 31 (0, 0)) (pY58) k_ hk_.2.1), (Kd.freshB (g := gb102) (o := .cells #[.slice none 0 0, .slice none 0 0] 31 (0, 0)) (pY59) k_ hk_.2.1)⟩)) (below_size (pY46))); replace BK101 := bB pY58 hb; replace BK102 := bB pY59 hb; replace HB := bS pY46 hb; (try clear hb); (try clear hb2); (try clear hk); (try clear hi); (try clear ho0); (try clear ho1)) | ((with_reducible refine gate_dst (N := 8) rfl ?_); refine box_event ?hg (N := 8) ?hd (cs := #[.slice none 0 0, .slice none 0 0]) (t := 31) ?hr ?_; (case hd => rfl); (case hg => rfl); (case hr => (try (obtain ⟨Az_, cz_, ez_⟩ := Kd.R_slice HO126.1; subst ez_)); first | (go_simp; done) | (go_simp; rfl)); intro gb110 hg w147 hbox hb; replace HO106 := am (Kd.R_below (pY74) hb); replace HO109 := am (Kd.N_below (Kd.N_elderB (pY75) gb110 (Nat.le_of_eq hg.symm)) hb); have BK110 := am (hbox); have GW110 := am (pY39 : w.heap.size ≤ gb110); have GE110 := am (pY39 : w.heap.size ≤ gb110); replace HB := bS pY46 hb; have NB101_110 := nL pY58 hg; have NB110_101 := nG pY58 hg; replace BK101 := bB pY58 hb; have NB102_110 := nL pY59 hg; have NB110_102 := nG pY59 hg; replace BK102 := bB pY59 hb; clear hb hbox hg; obtain ⟨Ao148, co148, eo148⟩ := Kd.R_slice HO106.1; subst eo148; have hnb149 := NB110_101.1; have hnc149 := NB101_110.1; have hnb150 := NB110_102.1; have hnc150 := NB102_110.1; obtain ⟨hcz151_0, hcz151_1, hfz151_0, hfz151_1⟩ := cz2 BK110; obtain ⟨Ao152, co152, eo152⟩ := Kd.N_slice HO109.1; subst eo152; obtain ⟨hcz153_0, hcz153_1, hfz153_0, hfz153_1⟩ := cz2 BK101) | ((with_reducible refine gate_callee (f := 82) rfl ?_); refine goesL_ (some 20) rfl rfl Try.func82 (by kernel_rfl) rfl #[.agg #[.slice A0_0 l0_0.length c0_0, .slice A0_1 l0_1.length c0_1], .string a1] rfl (pY54) ?_; (with_reducible refine (spec_l1At.calls k _ _ l0_0 _ _ l0_1 a1 t111 _ ?side1 ?side2 ?side3 ?side4 A7.out).mono ?_); (case side1 => exact Kd.C_below HR0_0.1 (pY43)); (case side2 => exact HC0_0.1); (case side3 => exact Kd.C_below HR0_1.1 (pY43)); (case side4 => exact HC0_1.1); rintro e w154 ⟨rfl, hb⟩; refine ⟨_, rfl, ?_⟩; replace HO106 := am (Kd.R_below (by refine rR ?_; exact (Kd.R_mono (Kd.R_far (p := ⟨gb110, 1, none⟩) (Kd.R_far (p := ⟨gb110, 0, none⟩) (Kd.R_types HO106.1 BK110.1 (by decide)) (fun _ hk => hk.2) (.slice Ao148 t104.length co148)) (fun _ hk => hk.2) (.slice Ao152 t107.length co152)) (fun _ h_ => h_.1))) hb); replace HO109 := am (Kd.N_below (by refine rN ?_; exact (Kd.N_mono (Kd.N_far (p := ⟨gb110, 1, none⟩) (Kd.N_far (p := ⟨gb110, 0, none⟩) (Kd.N_mono HO109.1 (fun k_ hk => (⟨hk, hk.2⟩ : _ ∧ k_ ≠ gb110))) (fun _ hk => hk.2) (.slice Ao148 t104.length co148)) (fun _ hk => hk.2) (.slice Ao152 t107.length co152)) (fun _ h_ => h_.1))) hb); replace BK101 := am (blk_below (g := gb101) (o := .cells #[.slice A0_0 l0_0.length c0_0, .slice A0_1 l0_1.length c0_1] 31 (0, 0)) (pY10) hb); replace BK102 := am (blk_below (g := gb102) (o := .cells #[.slice none 0 0, .slice none 0 0] 31 (0, 0)) (pY11) hb); replace BK110 := am (blk_below (g := gb110) (o := .cells #[.slice Ao148 t104.length co148, .slice Ao152 t107.length co152] 31 (0, 0)) (by (with_reducible repeat (first | refine blk_drewN ?_ _ | refine blk_drew ?_ | refine blk_alloc ?_ _)); refine blk_put (cs := #[.slice Ao148 t104.length co148, .slice none 0 0]) ?_ 1 _ rfl; (with_reducible repeat (first | refine blk_drewN ?_ _ | refine blk_drew ?_ | refine blk_alloc ?_ _)); refine blk_put (cs := #[.slice none 0 0, .slice none 0 0]) ?_ 0 _ rfl; (with_reducible repeat (first | refine blk_drewN ?_ _ | refine blk_drew ?_ | refine blk_alloc ?_ _)); exact BK110.1) hb); replace HB := bS pY43 hb; (try clear hb); (try clear hb2); (try clear hk); (try clear hi); obtain ⟨hcz155_0, hcz155_1, hfz155_0, hfz155_1⟩ := cz2 BK101; have p112 : 0 ≤ (t111 : Int) := of_decide_eq_true (pY82); have q112 : t111 < (l0_1.length : Int) := of_decide_eq_true (pY82); obtain ⟨ad112, A112_1, c112_1, A112_2, c112_2, e112, hx112_0, hx112_1, hx112_2, hl112_1, hi112_1, hl112_2, hi112_2⟩ := at_T56 HR0_1.1 t111 p112 q112; cases e112; replace hx112_0 := hX HB hx112_0; replace hx112_1 := hX HB hx112_1; replace hx112_2 := hX HB hx112_2; have HR112_1 := am hi112_1; have HC112_1 := am hl112_1; clear hi112_1 hl112_1; have HR112_2 := am hi112_2; have HC112_2 := am hl112_2; clear hi112_2 hl112_2; replace p112 := eq_true p112; replace q112 := eq_true q112) | ((with_reducible refine gate_callee (f := 71) rfl ?_); refine goesL_ (some 31) rfl rfl Try.func71 (by kernel_rfl) rfl #[.slice A2 l2.length c2, .slice A112_2 ((rd_T56 l0_1 t111).f2).length c112_2] rfl (pY54) ?_; (with_reducible refine (spec_l1NamesOk.calls k _ _ l2 _ _ ((rd_T56 l0_1 t111).f2) false _ ?side1 ?side2 ?side3 ?side4 A28.out).mono ?_); (case side1 => exact pC (Kd.C_below HR2.1 HB.1)); (case side2 => exact HC2.1); (case side3 => exact pC (Kd.C_below HR112_2.1 HB.1)); (case side4 => exact HC112_2.1); rintro e w' ⟨rfl, ⟨nd, rfl⟩⟩; refine ⟨_, rfl, ?_⟩; (try (rw [drewN_self w154]; generalize hq_ : World.drewN w154 _ = w154; have n0_ : Aside0 (Kd.R Kd.string 9 w154 w.heap.size (fun k_ => (((w.heap.size ≤ k_)) ∧ True)) (.slice Ao148 t104.length co148) t104) := ⟨by rw [← hq_]; exact (pY74)⟩; have n1_ : Aside0 (Kd.N k56 56 w154 w.heap.size (fun k_ => ((((w.heap.size ≤ k_)) ∧ (some k_ ≠ (.slice Ao148 t104.length co148 : Value).ownBlock ∧ (k_ ≠ gb101 ∧ k_ ≠ gb102))) ∧ k_ ≠ gb110)) (.slice Ao152 t107.length co152) t107) := ⟨by rw [← hq_]; exact (pY75)⟩; have n2_ : Aside0 (w154.heap[gb101]? = some (.cells #[.slice A0_0 l0_0.length c0_0, .slice (some ad112) l0_1.length c0_1] 31 (0, 0))) := ⟨by rw [← hq_]; exact (pY58)⟩; have n3_ : Aside0 (w154.heap[gb102]? = some (.cells #[.slice none 0 0, .slice none 0 0] 31 (0, 0))) := ⟨by rw [← hq_]; exact (pY59)⟩; have n4_ : Aside0 (w154.heap[gb110]? = some (.cells #[.slice Ao148 t104.length co148, .slice Ao152 t107.length co152] 31 (0, 0))) := ⟨by rw [← hq_]; exact (pY61)⟩; have n5_ : Aside0 (Below w.heap.size w w154) := ⟨by rw [← hq_]; exact (pY43)⟩; clear HO106 HO109 BK101 BK102 BK110 HB hq_; have HO106 := n0_; have HO109 := n1_; have BK101 := n2_; have BK102 := n3_; have BK110 := n4_; have HB := n5_; clear n0_ n1_ n2_ n3_ n4_ n5_)); obtain ⟨hcz156_0, hcz156_1, hfz156_0, hfz156_1⟩ := cz2 BK110; obtain ⟨hcz157_0, hcz157_1, hfz157_0, hfz157_1⟩ := cz2 BK102))
      refine bodyPost_ret (results_ct rfl _ _ gb102 31 #[.slice Ao148 t104.length co148, .slice Ao152 t107.length co152] (0, 0) _ rfl (by (with_reducible repeat (first | refine blk_drewN ?_ _ | refine blk_drew ?_ | refine blk_alloc ?_ _)); refine blk_put (cs := #[.slice Ao148 t104.length co148, .slice none 0 0]) ?_ 1 _ rfl; (with_reducible repeat (first | refine blk_drewN ?_ _ | refine blk_drew ?_ | refine blk_alloc ?_ _)); refine blk_put (cs := #[.slice none 0 0, .slice none 0 0]) ?_ 0 _ rfl; (with_reducible repeat (first | refine blk_drewN ?_ _ | refine blk_drew ?_ | refine blk_alloc ?_ _)); exact BK102.1) Try.underlying31 rfl (by kernel_rfl)) rfl ?_
      exact ⟨_, _, by first | rfl | (simp [errW_none, errW_some] <;> rfl) | (simp [*, errW_none, errW_some] <;> rfl), by refine rR ?_; exact Kd.R_mono (Kd.R_far (p := ⟨gb102, 1, none⟩) (Kd.R_far (p := ⟨gb102, 0, none⟩) (Kd.R_types HO106.1 BK102.1 (by decide)) (fun _ hk => hk.2) (.slice Ao148 t104.length co148)) (fun _ hk => hk.2) (.slice Ao152 t107.length co152)) (fun _ hk => hk.1.1), by refine rN ?_; exact Kd.N_mono (Kd.N_far (p := ⟨gb102, 1, none⟩) (Kd.N_far (p := ⟨gb102, 0, none⟩) (Kd.N_mono HO109.1 (fun k_ hk => (⟨hk, hk.1.2.2.2⟩ : _ ∧ k_ ≠ gb102))) (fun _ hk => hk.2) (.slice Ao148 t104.length co148)) (fun _ hk => hk.2) (.slice Ao152 t107.length co152)) (fun _ hk => ⟨hk.1.1.1, hk.1.1.2.1⟩), pY43⟩
    ·rw [if_neg c27] at H
     exact absurd H (by simp)
   ·rw [if_neg c26] at H
    exact absurd H (by simp)
 ·replace c5 := Bool.eq_false_iff.mpr c5
  subst c5
  replace H := iF H
  simp only [Option.some.injEq, Prod.mk.injEq] at H
  obtain ⟨rfl, rfl, rfl⟩ := H
  go_enter Try.func61, Try.ntmps61
  go_wp2_with (first | ((with_reducible refine gate_dst (N := 3) rfl ?_); refine box_event ?hg (N := 3) ?hd (cs := #[.slice A0_0 l0_0.length c0_0, .slice A0_1 l0_1.length c0_1]) (t := 31) ?hr ?_; (case hd => rfl); (case hg => rfl); (case hr => (try (obtain ⟨Az_, cz_, ez_⟩ := Kd.R_slice HO126.1; subst ez_)); first | (go_simp; done) | (go_simp; rfl)); intro gb101 hg w158 hbox hb; have BK101 := am (hbox); have GW101 := am (pY52 : w.heap.size ≤ gb101); have GE101 := am (pY52 : w.heap.size ≤ gb101); replace HB := bS pY55 hb; clear hb hbox hg) | ((with_reducible refine gate_dst (N := 6) rfl ?_); refine box_event ?hg (N := 6) ?hd (cs := #[.slice none 0 0, .slice none 0 0]) (t := 31) ?hr ?_; (case hd => rfl); (case hg => rfl); (case hr => (try (obtain ⟨Az_, cz_, ez_⟩ := Kd.R_slice HO126.1; subst ez_)); first | (go_simp; done) | (go_simp; rfl)); intro gb102 hg w159 hbox hb; have BK102 := am (hbox); have GW102 := am (pY45 : w.heap.size ≤ gb102); have GE102 := am (pY45 : w.heap.size ≤ gb102); replace HB := bS pY53 hb; have NB101_102 := nL pY58 hg; have NB102_101 := nG pY58 hg; replace BK101 := bB pY58 hb; clear hb hbox hg; have hnb160 := NB101_102.1; have hnc160 := NB102_101.1; obtain ⟨hcz161_0, hcz161_1, hfz161_0, hfz161_1⟩ := cz2 BK101) | ((with_reducible refine gate_callee (f := 22) rfl ?_); refine goesL_ (some 13) rfl rfl Try.func22 (by kernel_rfl) rfl #[.agg #[.slice A0_0 l0_0.length c0_0, .slice A0_1 l0_1.length c0_1]] rfl (pY54) ?_; (with_reducible refine (spec_ShareBookOk.calls k _ _ l0_0 _ _ l0_1 false _ ?side1 ?side2 ?side3 ?side4 A4.out).mono ?_); (case side1 => exact pC (Kd.C_below HR0_0.1 HB.1)); (case side2 => exact HC0_0.1); (case side3 => exact pC (Kd.C_below HR0_1.1 HB.1)); (case side4 => exact HC0_1.1); rintro e w162 ⟨rfl, hb⟩; refine ⟨_, rfl, ?_⟩; replace BK101 := bB pY58 hb; replace BK102 := bB pY59 hb; replace HB := bS pY46 hb; (try clear hb); (try clear hb2); (try clear hk); (try clear hi); obtain ⟨hcz163_0, hcz163_1, hfz163_0, hfz163_1⟩ := cz2 BK102))
  refine bodyPost_ret (results_ct rfl _ _ gb102 31 #[.slice none 0 0, .slice none 0 0] (0, 0) _ rfl (pY9) Try.underlying31 rfl (by kernel_rfl)) rfl ?_
  exact ⟨_, _, by first | rfl | (simp [errW_none, errW_some] <;> rfl) | (simp [*, errW_none, errW_some] <;> rfl), by first | exact Kd.R_nil _ _ _ _ _ | exact Kd.N_nil _ _ _ _ _ | exact Kd.V_nil _ _ _ _ _ | exact Kd.Q_nil _ _ _ _ _ | exact Kd.S_nil _ _ _ _ _, by first | exact Kd.S_nil _ _ _ _ _ | exact Kd.N_nil _ _ _ _ _ | exact Kd.V_nil _ _ _ _ _ | exact Kd.Q_nil _ _ _ _ _ | exact Kd.R_nil _ _ _ _ _, pY46⟩
end Go.Proofs.Ytaofjgnhapnndaa.Q
