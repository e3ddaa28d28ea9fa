/- Texts that the row needs: words on memory and rows, the contracts of the functions it reaches, and the plain lemmas on what they compute. -/
import Derived.Test.YtaofjgnhapnndaaProg
import Derived.Below
import Derived.Deep.Draws
import Derived.Deep.AppendLies
import Derived.Maps.AppendAt
import Derived.OwnWalk
import Derived.Laws.BytesArg
import Derived.Laws.MakeOwn
import Derived.Laws.OwnMore
import Derived.Deep.OwnRows
import Derived.Tactics
import Derived.Lib.ConvBytes
import Derived.Laws.Slices
import Derived.WalkKit
import Derived.KernelRfl
import Derived.RowKit3
import Derived.Deep.LoopGhost
import Derived.Deep.QuietTactic
import Derived.BigQuiet
import Derived.WideLaws
import Derived.Deep.DeepCutAuto
import Derived.Deep.CutBlock
import Derived.Deep.RegionHeld3
import Derived.Laws.Rows
import Derived.Lib.AppendStr
import Derived.ArgAppend
import Derived.Laws.IdiomCopy
import Derived.OrdersHeld
import Derived.Laws.BitsLemmas
import Derived.RowKit
import Derived.WalkLawsBesides
import Derived.Laws.StructEq
import Derived.Shelf.Abstract
import Derived.Test.YtaofjgnhapnndaaRows
import Derived.ProofKit
import Derived.Shelf.Slices.Cells
import Derived.Shelf.Bodies
import Derived.Ground.NamesProg
import Derived.Shelf.Sort.Plain
import Derived.Shelf.Slices.In.SortNone2
import Derived.Test.YtaofjgnhapnndaaXKaa
import Derived.Test.YtaofjgnhapnndaaXKab
import Derived.Test.YtaofjgnhapnndaaXKac
import Derived.Test.YtaofjgnhapnndaaXKad
import Derived.Test.YtaofjgnhapnndaaXKae
import Derived.Test.YtaofjgnhapnndaaXKaf
import Derived.Test.YtaofjgnhapnndaaXKag
import Derived.Test.YtaofjgnhapnndaaXKah
open Go.Proofs.YtaofjgnhapnndaaFK
namespace Go.Proofs.Ytaofjgnhapnndaa.Q
open Go.RowKit Go.Proofs.YtaofjgnhapnndaaW.PrintWords Go.Proofs.YtaofjgnhapnndaaW.PrintLast Go.Proofs.YtaofjgnhapnndaaW.PrintMore
set_option linter.unusedVariables false
set_option linter.unusedSimpArgs false
def PredS (g : Nat) (lb : Array Value) (p : ByteArray → Bool) (w : World) : Prop :=
  ∀ (W : World) (s : ByteArray), Below w.heap.size w W → Calls Try.prog g (#[.string s] ++ lb) W fun e w' => e = .returned (.bool (p s)) ∧ Below w.heap.size w w'
theorem C_len {α : Type} {d : Kd α} {w : World} {A : Option Addr} {n : Nat} {xs : List α} (h : d.C w A n xs) : n ≤ 9223372036854775807 := h.2.1
def idxP (p : ByteArray → Bool) : List ByteArray → Nat → Int
  | [], _ => -1
  | x :: xs, i => if p x = true then (i : Int) else idxP p xs (i + 1)
theorem idxP_nonneg (p : ByteArray → Bool) : ∀ (l : List ByteArray) (i : Nat), decide (0 ≤ idxP p l i) = l.any p := by
  intro l
  induction l with
  | nil => intro i; simp [idxP]
  | cons x xs ih =>
    intro i
    unfold idxP
    cases h : p x with
    | true => simp [h]
    | false => simp [h, ih]
set_option maxHeartbeats 2000000 in
theorem indexFunc_any (g : Nat) (lb : Array Value) (eg : ∀ args w, (callFunc g args).run Try.prog w = .ok (.enter g args) w) (p : ByteArray → Bool) (A0 : Option Addr) (c0 : Nat) (l0 : List ByteArray) (w : World)
    (hr0 : Kd.C Kd.string w A0 l0.length l0) (hp : PredS g lb p w) :
    Calls Try.prog 113 #[.slice A0 l0.length c0, .func (.func g) #[] lb] w fun e w' => e = .returned (.int .i64 (idxP p l0 0)) ∧ Below w.heap.size w w' := by
  have hbig := C_len hr0
  have HR0 := Aside0.mk hr0
  clear hr0
  have HP := Aside0.mk hp
  clear hp
  go_enter Try.func113, Try.ntmps113
  go_wp2
  go_loopg [5, 8] l0.length (fun gg _ s8 wr => ∃ kk : Nat, kk ≤ l0.length ∧ l0.length - kk ≤ gg ∧ s8 = .int .i64 kk ∧ Aside0 (Below w.heap.size w wr) ∧ Aside0 (idxP p l0 0 = idxP p (l0.drop kk) kk))
  case atStart => exact ⟨0, Nat.zero_le _, by omega, rfl, ⟨Below.refl _ w⟩, ⟨by rw [List.drop_zero]⟩⟩
  case round =>
    obtain ⟨kk, hkk, hg, rfl, BW, A⟩ := hrel
    by_cases hlt : kk < l0.length
    · have hltz : (kk : Int) < (l0.length : Int) := by omega
      have e1 := A.out
      rw [List.drop_eq_getElem_cons hlt, idxP] at e1
      have E1 := Aside0.mk e1
      clear e1
      obtain ⟨ad, rfl, hx⟩ := Kd.at_string HR0.1 (kk : Int) (by omega) (by omega)
      rw [rdOf_nat _ _ _ hlt, Int.toNat_natCast] at hx
      have hcall := HP.out wr l0[kk] BW.out
      replace hx := (BW.out.cell (World.block_lt_of_cell? w _ hx)).trans hx
      generalize hy : l0[kk] = y at hx hcall E1
      clear hy
      cases hq : p y with
      | true =>
        rw [hq] at hcall
        have E2 : Aside0 (idxP p l0 0 = kk) := ⟨by rw [E1.out, if_pos hq]⟩
        clear hq
        go_wp2_with (go_at_fn g; refine hcall.mono ?_; rintro e w' ⟨rfl, hb'⟩)
        go_ret
        exact ⟨by rw [E2.out]; rfl, hb'⟩
      | false =>
        rw [hq] at hcall
        have E2 : Aside0 (idxP p l0 0 = idxP p (l0.drop (kk + 1)) (kk + 1)) := ⟨by rw [E1.out, if_neg (by simp [hq])]⟩
        clear hq
        go_wp2_with (go_at_fn g; refine hcall.mono ?_; rintro e w' ⟨rfl, hb'⟩)
        go_roundg (l0.length - (kk + 1))
        case measure => omega
        case rel => exact ⟨kk + 1, by omega, by omega, by go_num, ⟨hb'⟩, E2⟩
    · have hltz : ¬ (kk : Int) < (l0.length : Int) := by omega
      have hk2 : kk = l0.length := by omega
      have E2 : Aside0 (idxP p l0 0 = -1) := ⟨by rw [A.out, hk2, List.drop_length]; rfl⟩
      subst hk2
      go_wp2
      go_ret
      exact ⟨by rw [E2.out]; rfl, BW.out⟩
theorem containsFunc_any (g : Nat) (lb : Array Value) (eg : ∀ args w, (callFunc g args).run Try.prog w = .ok (.enter g args) w) (p : ByteArray → Bool) (A0 : Option Addr) (c0 : Nat) (l0 : List ByteArray) (w : World)
    (hr0 : Kd.C Kd.string w A0 l0.length l0) (hp : PredS g lb p w) :
    Calls Try.prog 75 #[.slice A0 l0.length c0, .func (.func g) #[] lb] w fun e w' => e = .returned (.bool (l0.any p)) ∧ Below w.heap.size w w' := by
  have HC := Aside0.mk (indexFunc_any g lb eg p A0 c0 l0 w hr0 hp)
  have HN := Aside0.mk (idxP_nonneg p l0 0)
  clear hr0 hp eg
  generalize idxP p l0 0 = q at HC HN
  go_enter Try.func75, Try.ntmps75
  go_wp2_with (go_at_call 113; refine HC.out.mono ?_; rintro e w' ⟨rfl, hb'⟩)
  go_ret
  exact ⟨by rw [← HN.out]; rfl, hb'⟩
end Go.Proofs.Ytaofjgnhapnndaa.Q
namespace Go.Proofs.Ytaofjgnhapnndaa.Q
open Go.RowKit Go.Proofs.YtaofjgnhapnndaaW.PrintWords Go.Proofs.YtaofjgnhapnndaaW.PrintLast Go.Proofs.YtaofjgnhapnndaaW.PrintMore
set_option linter.unusedVariables false
set_option linter.unusedSimpArgs false
mutual
def impl_name.j0 : Nat → ByteArray → Bool → Option (Bool)
 | 0, _, _ => none
 | k + 1, x0, x12 => if x12 = true then (some false) else (impl_name.l0 k x0 0)
def impl_name.l0 : Nat → ByteArray → Int → Option (Bool)
 | 0, _, _ => none
 | k + 1, x0, x3 => if x3 < (x0.size : Int) then (if 0 ≤ x3 then (if (bt x0 x3) ≥ 97 then (if (bt x0 x3) ≤ 122 then (impl_name.l0 k x0 (wrap64 (x3 + 1))) else (if (bt x0 x3) ≥ 48 then (if (bt x0 x3) ≤ 57 then (impl_name.l0 k x0 (wrap64 (x3 + 1))) else (if ((bt x0 x3) = 45) then (impl_name.l0 k x0 (wrap64 (x3 + 1))) else (some false))) else (if ((bt x0 x3) = 45) then (impl_name.l0 k x0 (wrap64 (x3 + 1))) else (some false)))) else (if (bt x0 x3) ≥ 48 then (if (bt x0 x3) ≤ 57 then (impl_name.l0 k x0 (wrap64 (x3 + 1))) else (if ((bt x0 x3) = 45) then (impl_name.l0 k x0 (wrap64 (x3 + 1))) else (some false))) else (if ((bt x0 x3) = 45) then (impl_name.l0 k x0 (wrap64 (x3 + 1))) else (some false)))) else (none)) else (some true)
end
def impl_name.f (k : Nat) (a0 : ByteArray) : Option (Bool) := if (a0.size : Int) < 1 then (impl_name.j0 k a0 true) else (impl_name.j0 k a0 (decide ((a0.size : Int) > 8)))
theorem impl_name.mono_l : ∀ k, (∀ y0 y1, LeO (impl_name.j0 k y0 y1) (impl_name.j0 (k + 1) y0 y1)) ∧ (∀ y0 y1, LeO (impl_name.l0 k y0 y1) (impl_name.l0 (k + 1) y0 y1))
 | 0 => ⟨fun _ _ r h => by simp [impl_name.j0] at h, fun _ _ r h => by simp [impl_name.l0] at h⟩
 | k + 1 => by
  obtain ⟨ih0, ih1⟩ := impl_name.mono_l k
  refine ⟨?_, ?_⟩
  ·intro y0 y1
   unfold impl_name.j0
   repeat' first
   | (with_reducible exact ih0 _ _)
   | (with_reducible exact ih1 _ _)
   | (with_reducible exact LeO.refl _)
   | (with_reducible exact LeO.none _)
   | (with_reducible refine LeO.ite ?_ ?_)
   | (with_reducible refine LeO.bind ?_ (fun _ => ?_))
   | exact ih0 _ _
   | exact ih1 _ _
   | exact LeO.none _
   | refine LeO.ite ?_ ?_
   | refine LeO.bind ?_ (fun _ => ?_)
  ·intro y0 y1
   unfold impl_name.l0
   repeat' first
   | (with_reducible exact ih0 _ _)
   | (with_reducible exact ih1 _ _)
   | (with_reducible exact LeO.refl _)
   | (with_reducible exact LeO.none _)
   | (with_reducible refine LeO.ite ?_ ?_)
   | (with_reducible refine LeO.bind ?_ (fun _ => ?_))
   | exact ih0 _ _
   | exact ih1 _ _
   | exact LeO.none _
   | refine LeO.ite ?_ ?_
   | refine LeO.bind ?_ (fun _ => ?_)
theorem impl_name.mono : ∀ a0 k, LeO (impl_name.f k a0) (impl_name.f (k + 1) a0) := by
 intro a0 k
 obtain ⟨ih0, ih1⟩ := impl_name.mono_l k
 unfold impl_name.f
 repeat' first
   | (with_reducible exact ih0 _ _)
   | (with_reducible exact ih1 _ _)
   | (with_reducible exact LeO.refl _)
   | (with_reducible exact LeO.none _)
   | (with_reducible refine LeO.ite ?_ ?_)
   | (with_reducible refine LeO.bind ?_ (fun _ => ?_))
   | exact ih0 _ _
   | exact ih1 _ _
   | exact LeO.none _
   | refine LeO.ite ?_ ?_
   | refine LeO.bind ?_ (fun _ => ?_)
set_option maxHeartbeats 8000000 in
set_option maxRecDepth 100000 in
theorem impl_name.calls (k : Nat) (a0 : ByteArray) (r : Bool) (w : World) (h : impl_name.f k a0 = some r) :
  Calls Try.prog 77 #[.string a0] w fun e w' => e = .returned (.bool r) ∧ Drawn0 w w' := by
 have H : (if (a0.size : Int) < 1 then (impl_name.j0 k a0 true) else (impl_name.j0 k a0 (decide ((a0.size : Int) > 8)))) = some r := h
 clear h
 have HC2 := am H
 clear H
 go_enter Try.func77, Try.ntmps77
 go_upto_region 1 with ((fail))
 go_cut [12] (fun v12 wc => ∃ (kq : Nat) (x12_1 : Bool), v12 = .bool x12_1 ∧ Aside0 (impl_name.j0 kq a0 x12_1 = some r) ∧ Aside0 (kq ≤ k) ∧ Drawn0 w wc)
 case first =>
  have H := HC2.1
  clear HC2
  by_cases c3 : (a0.size : Int) < 1
  ·rw [if_pos c3] at H
   have c3b0 : decide ((a0.size : Int) < 1) = true := decide_eq_true c3
   have c3b1 : decide (a0.size < 1) = true := decide_eq_true (by omega)
   clear c3
   (first | rw [c3b0] | (simp only [i64_w, i32_w]; rw [c3b0]) | skip)
   have H' := am H
   clear H
   go_wp2
   go_meet
   case rel => exact ⟨_, (true), (pY83), H', ⟨by first | omega | exact Nat.le_refl _⟩, pY80⟩
  ·rw [if_neg c3] at H
   have c3b0 : decide ((a0.size : Int) < 1) = false := decide_eq_false c3
   have c3b1 : decide (a0.size < 1) = false := decide_eq_false (by omega)
   clear c3
   (first | rw [c3b0] | (simp only [i64_w, i32_w]; rw [c3b0]) | skip)
   have H' := am H
   clear H
   go_wp2
   go_meet
   case rel => exact ⟨_, (decide ((a0.size : Int) > 8)), (pY83), H', ⟨by first | omega | exact Nat.le_refl _⟩, pY80⟩
 case rest =>
  clear HC2
  obtain ⟨kq, x12_1, rfl, HA, HJ1, ⟨mc1, rfl⟩⟩ := hcut
  cases kq with
  | zero => exact absurd HA.out (by simp [impl_name.j0])
  | succ kj1 =>
   have H := HA.out
   clear HA
   simp only [impl_name.j0] at H
   by_cases c4 : x12_1 = true
   ·subst c4
    replace H := iT H
    obtain rfl := Option.some.inj H
    go_wp2
    go_ret
    exact ⟨by first | rfl | (simp; done) | (simp [*]; done), pY80⟩
   ·replace c4 := Bool.eq_false_iff.mpr c4
    subst c4
    replace H := iF H
    have H' := am H
    clear H
    go_wp2
    go_loopg [3] kj1 (fun kq v3 w' => ∃ (x3_2 : Int), v3 = .int .i64 x3_2 ∧ Aside0 (impl_name.l0 kq a0 x3_2 = some r) ∧ Aside0 (kq ≤ kj1) ∧ Drawn0 w w')
    case atStart => exact ⟨(0), (pY83), H', ⟨Nat.le_refl _⟩, pY80⟩
    case round =>
     clear H'
     try clear c4
     obtain ⟨x3_2, rfl, HA, HK2, ⟨m2, rfl⟩⟩ := hrel
     cases gk with
     | zero => exact absurd HA.out (by simp [impl_name.l0])
     | succ k2 =>
      have H := HA.out
      clear HA
      simp only [impl_name.l0] at H
      by_cases c5 : x3_2 < (a0.size : Int)
      ·rw [if_pos c5] at H
       have c5b0 : decide (x3_2 < (a0.size : Int)) = true := decide_eq_true c5
       clear c5
       by_cases c6 : 0 ≤ x3_2
       ·rw [if_pos c6] at H
        have c6b0 : decide (0 ≤ x3_2) = true := decide_eq_true c6
        clear c6
        by_cases c8 : (bt a0 x3_2) ≥ 97
        ·rw [if_pos c8] at H
         have c8b0 : decide (97 ≤ (bt a0 x3_2)) = true := decide_eq_true c8
         clear c8
         by_cases c9 : (bt a0 x3_2) ≤ 122
         ·rw [if_pos c9] at H
          have c9b0 : decide ((bt a0 x3_2) ≤ 122) = true := decide_eq_true c9
          clear c9
          have H' := am H
          clear H
          have p7 : 0 ≤ (x3_2 : Int) := of_decide_eq_true (pY82)
          have q7 : x3_2 < (a0.size : Int) := of_decide_eq_true (pY82)
          have hx7 := bt_at a0 x3_2
          replace p7 := eq_true p7
          replace q7 := eq_true q7
          go_wp2
          go_roundg k2
          case measure => have := HJ1.out; have := HK2.out; omega
          case rel => exact ⟨(wrap64 (x3_2 + 1)), (pY83), H', ⟨by have := HJ1.out; have := HK2.out; omega⟩, pY80⟩
         ·rw [if_neg c9] at H
          have c9b0 : decide ((bt a0 x3_2) ≤ 122) = false := decide_eq_false c9
          clear c9
          by_cases c10 : (bt a0 x3_2) ≥ 48
          ·rw [if_pos c10] at H
           have c10b0 : decide (48 ≤ (bt a0 x3_2)) = true := decide_eq_true c10
           clear c10
           by_cases c11 : (bt a0 x3_2) ≤ 57
           ·rw [if_pos c11] at H
            have c11b0 : decide ((bt a0 x3_2) ≤ 57) = true := decide_eq_true c11
            clear c11
            have H' := am H
            clear H
            have p7 : 0 ≤ (x3_2 : Int) := of_decide_eq_true (pY82)
            have q7 : x3_2 < (a0.size : Int) := of_decide_eq_true (pY82)
            have hx7 := bt_at a0 x3_2
            replace p7 := eq_true p7
            replace q7 := eq_true q7
            go_wp2
            go_roundg k2
            case measure => have := HJ1.out; have := HK2.out; omega
            case rel => exact ⟨(wrap64 (x3_2 + 1)), (pY83), H', ⟨by have := HJ1.out; have := HK2.out; omega⟩, pY80⟩
           ·rw [if_neg c11] at H
            have c11b0 : decide ((bt a0 x3_2) ≤ 57) = false := decide_eq_false c11
            clear c11
            by_cases c12 : ((bt a0 x3_2) = 45)
            ·rw [if_pos c12] at H
             have c12b0 : ((bt a0 x3_2) == 45) = true := beq_iff_eq.mpr c12
             have c12b1 : ((bt a0 x3_2) != 45) = false := bne_eq_false_iff_eq.mpr c12
             clear c12
             have H' := am H
             clear H
             have p7 : 0 ≤ (x3_2 : Int) := of_decide_eq_true (pY82)
             have q7 : x3_2 < (a0.size : Int) := of_decide_eq_true (pY82)
             have hx7 := bt_at a0 x3_2
             replace p7 := eq_true p7
             replace q7 := eq_true q7
             go_wp2
             go_roundg k2
             case measure => have := HJ1.out; have := HK2.out; omega
             case rel => exact ⟨(wrap64 (x3_2 + 1)), (pY83), H', ⟨by have := HJ1.out; have := HK2.out; omega⟩, pY80⟩
            ·rw [if_neg c12] at H
             have c12b0 : ((bt a0 x3_2) == 45) = false := beq_eq_false_iff_ne.mpr c12
             have c12b1 : ((bt a0 x3_2) != 45) = true := bne_iff_ne.mpr c12
             obtain rfl := Option.some.inj H
             have p7 : 0 ≤ (x3_2 : Int) := of_decide_eq_true (pY82)
             have q7 : x3_2 < (a0.size : Int) := of_decide_eq_true (pY82)
             have hx7 := bt_at a0 x3_2
             replace p7 := eq_true p7
             replace q7 := eq_true q7
             go_wp2
             go_ret
             exact ⟨by first | rfl | (simp; done) | (simp [*]; done), pY80⟩
          ·rw [if_neg c10] at H
           have c10b0 : decide (48 ≤ (bt a0 x3_2)) = false := decide_eq_false c10
           clear c10
           by_cases c13 : ((bt a0 x3_2) = 45)
           ·rw [if_pos c13] at H
            have c13b0 : ((bt a0 x3_2) == 45) = true := beq_iff_eq.mpr c13
            have c13b1 : ((bt a0 x3_2) != 45) = false := bne_eq_false_iff_eq.mpr c13
            clear c13
            have H' := am H
            clear H
            have p7 : 0 ≤ (x3_2 : Int) := of_decide_eq_true (pY82)
            have q7 : x3_2 < (a0.size : Int) := of_decide_eq_true (pY82)
            have hx7 := bt_at a0 x3_2
            replace p7 := eq_true p7
            replace q7 := eq_true q7
            go_wp2
            go_roundg k2
            case measure => have := HJ1.out; have := HK2.out; omega
            case rel => exact ⟨(wrap64 (x3_2 + 1)), (pY83), H', ⟨by have := HJ1.out; have := HK2.out; omega⟩, pY80⟩
           ·rw [if_neg c13] at H
            have c13b0 : ((bt a0 x3_2) == 45) = false := beq_eq_false_iff_ne.mpr c13
            have c13b1 : ((bt a0 x3_2) != 45) = true := bne_iff_ne.mpr c13
            obtain rfl := Option.some.inj H
            have p7 : 0 ≤ (x3_2 : Int) := of_decide_eq_true (pY82)
            have q7 : x3_2 < (a0.size : Int) := of_decide_eq_true (pY82)
            have hx7 := bt_at a0 x3_2
            replace p7 := eq_true p7
            replace q7 := eq_true q7
            go_wp2
            go_ret
            exact ⟨by first | rfl | (simp; done) | (simp [*]; done), pY80⟩
        ·rw [if_neg c8] at H
         have c8b0 : decide (97 ≤ (bt a0 x3_2)) = false := decide_eq_false c8
         clear c8
         by_cases c14 : (bt a0 x3_2) ≥ 48
         ·rw [if_pos c14] at H
          have c14b0 : decide (48 ≤ (bt a0 x3_2)) = true := decide_eq_true c14
          clear c14
          by_cases c15 : (bt a0 x3_2) ≤ 57
          ·rw [if_pos c15] at H
           have c15b0 : decide ((bt a0 x3_2) ≤ 57) = true := decide_eq_true c15
           clear c15
           have H' := am H
           clear H
           have p7 : 0 ≤ (x3_2 : Int) := of_decide_eq_true (pY82)
           have q7 : x3_2 < (a0.size : Int) := of_decide_eq_true (pY82)
           have hx7 := bt_at a0 x3_2
           replace p7 := eq_true p7
           replace q7 := eq_true q7
           go_wp2
           go_roundg k2
           case measure => have := HJ1.out; have := HK2.out; omega
           case rel => exact ⟨(wrap64 (x3_2 + 1)), (pY83), H', ⟨by have := HJ1.out; have := HK2.out; omega⟩, pY80⟩
          ·rw [if_neg c15] at H
           have c15b0 : decide ((bt a0 x3_2) ≤ 57) = false := decide_eq_false c15
           clear c15
           by_cases c16 : ((bt a0 x3_2) = 45)
           ·rw [if_pos c16] at H
            have c16b0 : ((bt a0 x3_2) == 45) = true := beq_iff_eq.mpr c16
            have c16b1 : ((bt a0 x3_2) != 45) = false := bne_eq_false_iff_eq.mpr c16
            clear c16
            have H' := am H
            clear H
            have p7 : 0 ≤ (x3_2 : Int) := of_decide_eq_true (pY82)
            have q7 : x3_2 < (a0.size : Int) := of_decide_eq_true (pY82)
            have hx7 := bt_at a0 x3_2
            replace p7 := eq_true p7
            replace q7 := eq_true q7
            go_wp2
            go_roundg k2
            case measure => have := HJ1.out; have := HK2.out; omega
            case rel => exact ⟨(wrap64 (x3_2 + 1)), (pY83), H', ⟨by have := HJ1.out; have := HK2.out; omega⟩, pY80⟩
           ·rw [if_neg c16] at H
            have c16b0 : ((bt a0 x3_2) == 45) = false := beq_eq_false_iff_ne.mpr c16
            have c16b1 : ((bt a0 x3_2) != 45) = true := bne_iff_ne.mpr c16
            obtain rfl := Option.some.inj H
            have p7 : 0 ≤ (x3_2 : Int) := of_decide_eq_true (pY82)
            have q7 : x3_2 < (a0.size : Int) := of_decide_eq_true (pY82)
            have hx7 := bt_at a0 x3_2
            replace p7 := eq_true p7
            replace q7 := eq_true q7
            go_wp2
            go_ret
            exact ⟨by first | rfl | (simp; done) | (simp [*]; done), pY80⟩
         ·rw [if_neg c14] at H
          have c14b0 : decide (48 ≤ (bt a0 x3_2)) = false := decide_eq_false c14
          clear c14
          by_cases c17 : ((bt a0 x3_2) = 45)
          ·rw [if_pos c17] at H
           have c17b0 : ((bt a0 x3_2) == 45) = true := beq_iff_eq.mpr c17
           have c17b1 : ((bt a0 x3_2) != 45) = false := bne_eq_false_iff_eq.mpr c17
           clear c17
           have H' := am H
           clear H
           have p7 : 0 ≤ (x3_2 : Int) := of_decide_eq_true (pY82)
           have q7 : x3_2 < (a0.size : Int) := of_decide_eq_true (pY82)
           have hx7 := bt_at a0 x3_2
           replace p7 := eq_true p7
           replace q7 := eq_true q7
           go_wp2
           go_roundg k2
           case measure => have := HJ1.out; have := HK2.out; omega
           case rel => exact ⟨(wrap64 (x3_2 + 1)), (pY83), H', ⟨by have := HJ1.out; have := HK2.out; omega⟩, pY80⟩
          ·rw [if_neg c17] at H
           have c17b0 : ((bt a0 x3_2) == 45) = false := beq_eq_false_iff_ne.mpr c17
           have c17b1 : ((bt a0 x3_2) != 45) = true := bne_iff_ne.mpr c17
           obtain rfl := Option.some.inj H
           have p7 : 0 ≤ (x3_2 : Int) := of_decide_eq_true (pY82)
           have q7 : x3_2 < (a0.size : Int) := of_decide_eq_true (pY82)
           have hx7 := bt_at a0 x3_2
           replace p7 := eq_true p7
           replace q7 := eq_true q7
           go_wp2
           go_ret
           exact ⟨by first | rfl | (simp; done) | (simp [*]; done), pY80⟩
       ·rw [if_neg c6] at H
        exact absurd H (by simp)
      ·rw [if_neg c5] at H
       have c5b0 : decide (x3_2 < (a0.size : Int)) = false := decide_eq_false c5
       clear c5
       obtain rfl := Option.some.inj H
       go_wp2
       go_ret
       exact ⟨by first | rfl | (simp; done) | (simp [*]; done), pY80⟩
end Go.Proofs.Ytaofjgnhapnndaa.Q
namespace Go.Proofs.Ytaofjgnhapnndaa.Q
open Go.RowKit Go.Proofs.YtaofjgnhapnndaaW.PrintWords Go.Proofs.YtaofjgnhapnndaaW.PrintLast Go.Proofs.YtaofjgnhapnndaaW.PrintMore
set_option linter.unusedVariables false
set_option linter.unusedSimpArgs false
def okc (c : Int) : Bool := (decide (97 ≤ c) && decide (c ≤ 122)) || (decide (48 ≤ c) && decide (c ≤ 57)) || decide (c = 45)
def nameB (s : ByteArray) : Bool := decide (1 ≤ s.size) && decide (s.size ≤ 8) && (List.range' 0 s.size).all fun j => okc (bt s (j : Int))
theorem okc_true {c : Int} (h : okc c = true) : (97 ≤ c ∧ c ≤ 122) ∨ (48 ≤ c ∧ c ≤ 57) ∨ c = 45 := by
  simpa [okc, or_assoc] using h
theorem okc_false {c : Int} (h : okc c = false) : ¬ (97 ≤ c ∧ c ≤ 122) ∧ ¬ (48 ≤ c ∧ c ≤ 57) ∧ ¬ c = 45 := by
  simp only [okc, Bool.or_eq_false_iff, Bool.and_eq_false_iff, decide_eq_false_iff_not] at h
  omega
theorem okc_ite {α : Type} (c : Int) (x y : α) :
    (if c ≥ 97 then (if c ≤ 122 then x else (if c ≥ 48 then (if c ≤ 57 then x else (if c = 45 then x else y)) else (if c = 45 then x else y))) else (if c ≥ 48 then (if c ≤ 57 then x else (if c = 45 then x else y)) else (if c = 45 then x else y))) = if okc c = true then x else y := by
  cases h : okc c with
  | true =>
    rw [if_pos rfl]
    have h := okc_true h
    split
    · split
      · rfl
      · split
        · split
          · rfl
          · rw [if_pos (by omega)]
        · rw [if_pos (by omega)]
    · split
      · split
        · rfl
        · rw [if_pos (by omega)]
      · rw [if_pos (by omega)]
  | false =>
    rw [show (if false = true then x else y) = y from rfl]
    obtain ⟨h1, h2, h3⟩ := okc_false h
    rw [if_neg h3]
    by_cases a : c ≥ 97
    · rw [if_pos a, if_neg (fun b => h1 ⟨a, b⟩)]
      by_cases a2 : c ≥ 48
      · rw [if_pos a2, if_neg (fun b => h2 ⟨a2, b⟩)]
      · rw [if_neg a2]
    · rw [if_neg a]
      by_cases a2 : c ≥ 48
      · rw [if_pos a2, if_neg (fun b => h2 ⟨a2, b⟩)]
      · rw [if_neg a2]
theorem name_go (s : ByteArray) (hs : s.size ≤ 9223372036854775807) : ∀ (d k i : Nat), s.size - i = d → i ≤ s.size → d < k →
    impl_name.l0 k s (i : Int) = some ((List.range' i d).all fun j => okc (bt s (j : Int))) := by
  intro d
  induction d with
  | zero =>
    intro k i hd hi hk
    obtain ⟨k, rfl⟩ : ∃ m, k = m + 1 := ⟨k - 1, by omega⟩
    simp only [impl_name.l0]
    rw [if_neg (by omega)]
    rfl
  | succ d ih =>
    intro k i hd hi hk
    obtain ⟨k, rfl⟩ : ∃ m, k = m + 1 := ⟨k - 1, by omega⟩
    simp only [impl_name.l0, List.range'_succ, List.all_cons]
    rw [if_pos (by omega), if_pos (by omega), okc_ite]
    cases h : okc (bt s (i : Int)) with
    | true =>
      rw [if_pos rfl, wrap_succ (show i < s.size by omega) hs, ih k (i + 1) (by omega) (by omega) (by omega)]
      rfl
    | false =>
      rw [if_neg (by simp)]
      rfl
theorem name_at (s : ByteArray) : impl_name.f 10 s = some (nameB s) := by
  unfold impl_name.f nameB
  by_cases h1 : (s.size : Int) < 1
  · rw [if_pos h1]
    simp only [impl_name.j0]
    rw [if_pos trivial, show decide (1 ≤ s.size) = false from decide_eq_false (by omega)]
    rfl
  · rw [if_neg h1]
    simp only [impl_name.j0]
    by_cases h2 : (s.size : Int) > 8
    · rw [if_pos (decide_eq_true h2), show decide (s.size ≤ 8) = false from decide_eq_false (by omega)]
      simp
    · rw [if_neg (by simpa using h2), show (0 : Int) = ((0 : Nat) : Int) from rfl, name_go s (by omega) s.size 9 0 (by omega) (by omega) (by omega)]
      rw [show decide (s.size ≤ 8) = true from decide_eq_true (by omega), show decide (1 ≤ s.size) = true from decide_eq_true (by omega)]
      rfl
end Go.Proofs.Ytaofjgnhapnndaa.Q
namespace Go.Proofs.Ytaofjgnhapnndaa.Q
open Go.RowKit Go.Proofs.YtaofjgnhapnndaaW.PrintWords Go.Proofs.YtaofjgnhapnndaaW.PrintLast Go.Proofs.YtaofjgnhapnndaaW.PrintMore
set_option linter.unusedVariables false
set_option linter.unusedSimpArgs false
def impl_ShareBookOk_1.f (k : Nat) (a0 : ByteArray) : Option (Bool) := (impl_name.f k a0).bind fun t101 => (some (!t101))
set_option maxHeartbeats 8000000 in
set_option maxRecDepth 100000 in
theorem impl_ShareBookOk_1.calls (k : Nat) (a0 : ByteArray) (r : Bool) (w : World) (h : impl_ShareBookOk_1.f k a0 = some r) :
  Calls Try.prog 76 #[.string a0] w fun e w' => e = .returned (.bool r) ∧ Drawn0 w w' := by
 have H : ((impl_name.f k a0).bind fun t101 => (some (!t101))) = some r := h
 clear h
 obtain ⟨t101, A2, H⟩ := bd H
 obtain rfl := Option.some.inj H
 go_enter Try.func76, Try.ntmps76
 go_wp2_with (first | ((with_reducible refine gate_callee (f := 77) rfl ?_); refine goesL_ (some 4) rfl rfl Try.func77 (by kernel_rfl) rfl #[.string a0] rfl (pY54) ?_; (with_reducible refine (impl_name.calls k a0 t101 _ A2.out).mono ?_); rintro e w' ⟨rfl, ⟨nd, rfl⟩⟩; refine ⟨_, rfl, ?_⟩))
 go_ret
 exact ⟨by first | rfl | (simp; done) | (simp [*]; done), pY80⟩
end Go.Proofs.Ytaofjgnhapnndaa.Q
namespace Go.Proofs.Ytaofjgnhapnndaa.Q
open Go.RowKit Go.Proofs.YtaofjgnhapnndaaW.PrintWords Go.Proofs.YtaofjgnhapnndaaW.PrintLast Go.Proofs.YtaofjgnhapnndaaW.PrintMore
set_option linter.unusedVariables false
set_option linter.unusedSimpArgs false
theorem notName_at (s : ByteArray) : impl_ShareBookOk_1.f 10 s = some (!nameB s) := by
 unfold impl_ShareBookOk_1.f
 rw [name_at]
 rfl
def slices_ContainsFunc_string_string.f (l0 : List ByteArray) : Option (Bool) := some (l0.any fun s => !nameB s)
theorem slices_ContainsFunc_string_string.calls (A0 : Option Addr) (c0 : Nat) (l0 : List ByteArray) (r : Bool) (w : World) (hr0 : Kd.C Kd.string w A0 l0.length l0) (hc0 : l0.length ≤ c0) (h : slices_ContainsFunc_string_string.f l0 = some r) :
  Calls Try.prog 75 #[.slice A0 l0.length c0, .func (.func 76) #[] #[]] w fun e w' => e = .returned (.bool r) ∧ Below w.heap.size w w' := by
 obtain rfl := Option.some.inj h
 refine containsFunc_any 76 #[] (enters_of Try.func76 (by kernel_rfl) rfl) (fun s => !nameB s) A0 c0 l0 w hr0 (fun W s hb => ?_)
 exact (impl_ShareBookOk_1.calls 10 s (!nameB s) W (notName_at s)).mono fun e w' ⟨he, hd⟩ => ⟨he, below_then hb hb.size hd.below⟩
end Go.Proofs.Ytaofjgnhapnndaa.Q
namespace Go.Proofs.Ytaofjgnhapnndaa.Q
open Go.RowKit Go.Proofs.YtaofjgnhapnndaaW.PrintWords Go.Proofs.YtaofjgnhapnndaaW.PrintLast Go.Proofs.YtaofjgnhapnndaaW.PrintMore
set_option linter.unusedVariables false
set_option linter.unusedSimpArgs false
theorem common1_any (s : ByteArray) (gb : Nat) (A1 : Option Addr) (c1 : Nat) (l1 : List ByteArray) (W : World) (hc1 : l1.length ≤ c1) (hcell : W.cell? ⟨gb, 0, none⟩ = some (.slice A1 l1.length c1)) (hr1 : Kd.C Kd.string W A1 l1.length l1) :
  Calls Try.prog 114 #[.string s, .pointer (some ⟨gb, 0, none⟩)] W fun e w' => e = .returned (.bool (hasS l1 s)) ∧ Drawn0 W w' := by
 have HR1 := am hr1
 have HC1 := am hc1
 have HK := am (contains_at l1 s (C_len hr1))
 clear hr1 hc1
 generalize hasS l1 s = b at HK
 go_enter Try.func114, Try.ntmps114
 go_wp2_with ((go_at_call 81; refine (slices_Contains_string_string.calls (l1.length + 1) A1 c1 l1 s b _ ?s1 HC1.1 HK.out).mono ?_; (case s1 => repeat (first | exact HR1.1 | (with_reducible refine Kd.C_alloc ?_ _) | (with_reducible refine Kd.C_drewN ?_ _) | (with_reducible refine Kd.C_drew ?_))); rintro e w' ⟨rfl, ⟨nd, rfl⟩⟩))
 go_ret
 exact ⟨rfl, pY80⟩
def impl_common.f (l0 : List ByteArray) (l1 : List ByteArray) : Option (Bool) := some (l0.any (hasS l1))
theorem impl_common.calls (A0 : Option Addr) (c0 : Nat) (l0 : List ByteArray) (A1 : Option Addr) (c1 : Nat) (l1 : List ByteArray) (r : Bool) (w : World) (hr0 : Kd.C Kd.string w A0 l0.length l0) (hc0 : l0.length ≤ c0) (hr1 : Kd.C Kd.string w A1 l1.length l1) (hc1 : l1.length ≤ c1) (h : impl_common.f l0 l1 = some r) :
  Calls Try.prog 78 #[.slice A0 l0.length c0, .slice A1 l1.length c1] w fun e w' => e = .returned (.bool r) ∧ Below w.heap.size w w' := by
 obtain rfl := Option.some.inj h
 clear h
 have HW : Aside0 (Below w.heap.size w (w.alloc (.cells #[.slice A1 l1.length c1] 23 (0, 0)))) := ⟨(Below.refl _ _).alloc (Nat.le_refl _) _⟩
 have HC : Aside0 (Calls Try.prog 75 #[.slice A0 l0.length c0, .func (.func 114) #[] #[.pointer (some ⟨w.heap.size, 0, none⟩)]] (w.alloc (.cells #[.slice A1 l1.length c1] 23 (0, 0))) fun e w' => e = .returned (.bool (l0.any (hasS l1))) ∧ Below (w.alloc (.cells #[.slice A1 l1.length c1] 23 (0, 0))).heap.size (w.alloc (.cells #[.slice A1 l1.length c1] 23 (0, 0))) w') := by
  refine ⟨containsFunc_any 114 _ (enters_of Try.func114 (by kernel_rfl) rfl) (hasS l1) A0 c0 l0 _ (Kd.C_below hr0 HW.out) ?_⟩
  intro W s hb
  have hcell : W.cell? ⟨w.heap.size, 0, none⟩ = some (.slice A1 l1.length c1) := by
   rw [hb.cell (p := ⟨w.heap.size, 0, none⟩) (by simp)]
   simp
  exact (common1_any s w.heap.size A1 c1 l1 W hc1 hcell (Kd.C_below (Kd.C_below hr1 HW.out) hb)).mono fun e w' ⟨he, hd⟩ => ⟨he, below_then hb hb.size hd.below⟩
 generalize l0.any (hasS l1) = b at HC
 clear hr0 hc0 hr1 hc1
 go_enter Try.func78, Try.ntmps78
 go_wp2_with ((go_at_call 75; refine HC.out.mono ?_; rintro e w' ⟨rfl, hb'⟩))
 go_ret
 exact ⟨rfl, below_then HW.out HW.out.size hb'⟩
end Go.Proofs.Ytaofjgnhapnndaa.Q
namespace Go.Proofs.Ytaofjgnhapnndaa.Q
open Go.RowKit Go.Proofs.YtaofjgnhapnndaaW.PrintWords Go.Proofs.YtaofjgnhapnndaaW.PrintLast Go.Proofs.YtaofjgnhapnndaaW.PrintMore
set_option linter.unusedVariables false
set_option linter.unusedSimpArgs false
mutual
def impl_ShareBookOk.j0 : Nat → Bool → List ByteArray → List (S56) → Option (Bool)
 | 0, _, _, _ => none
 | k + 1, x29, x102000, x102001 => if x29 = true then (some false) else (impl_ShareBookOk.l0 k x102001 (x102001.length : Int) 0 x102000 x102001)
def impl_ShareBookOk.l0 : Nat → List (S56) → Int → Int → List ByteArray → List (S56) → Option (Bool)
 | 0, _, _, _, _, _ => none
 | k + 1, x31, x32, x33, x102000, x102001 => if x33 < x32 then (if 0 ≤ x33 then (if x33 < (x31.length : Int) then ((impl_name.f k ((rd_T56 x31 x33).f0)).bind fun t106 => (if t106 = true then (if x33 > 0 then (if 0 ≤ (wrap64 (x33 - 1)) then (if (wrap64 (x33 - 1)) < (x102001.length : Int) then (if ((Op.bytesLess (((rd_T56 x102001 (wrap64 (x33 - 1))).f0).toList) (((rd_T56 x31 x33).f0).toList)) = true) then ((impl_of.f k ((rd_T56 x31 x33).f2) x102000).bind fun t108 => (if t108 = true then ((impl_of.f k ((rd_T56 x31 x33).f1) ((rd_T56 x31 x33).f2)).bind fun t109 => (impl_ShareBookOk.j2 k x33 x31 x32 x33 (!t109) x102000 x102001 ((rd_T56 x31 x33).f0) ((rd_T56 x31 x33).f1) ((rd_T56 x31 x33).f2))) else (impl_ShareBookOk.j2 k x33 x31 x32 x33 true x102000 x102001 ((rd_T56 x31 x33).f0) ((rd_T56 x31 x33).f1) ((rd_T56 x31 x33).f2)))) else (impl_ShareBookOk.j2 k x33 x31 x32 x33 true x102000 x102001 ((rd_T56 x31 x33).f0) ((rd_T56 x31 x33).f1) ((rd_T56 x31 x33).f2))) else (none)) else (none)) else ((impl_of.f k ((rd_T56 x31 x33).f2) x102000).bind fun t110 => (if t110 = true then ((impl_of.f k ((rd_T56 x31 x33).f1) ((rd_T56 x31 x33).f2)).bind fun t111 => (impl_ShareBookOk.j2 k x33 x31 x32 x33 (!t111) x102000 x102001 ((rd_T56 x31 x33).f0) ((rd_T56 x31 x33).f1) ((rd_T56 x31 x33).f2))) else (impl_ShareBookOk.j2 k x33 x31 x32 x33 true x102000 x102001 ((rd_T56 x31 x33).f0) ((rd_T56 x31 x33).f1) ((rd_T56 x31 x33).f2))))) else (impl_ShareBookOk.j2 k x33 x31 x32 x33 true x102000 x102001 ((rd_T56 x31 x33).f0) ((rd_T56 x31 x33).f1) ((rd_T56 x31 x33).f2)))) else (none)) else (none)) else (some true)
def impl_ShareBookOk.j2 : Nat → Int → List (S56) → Int → Int → Bool → List ByteArray → List (S56) → ByteArray → List ByteArray → List ByteArray → Option (Bool)
 | 0, _, _, _, _, _, _, _, _, _, _ => none
 | k + 1, x3, x31, x32, x33, x73, x102000, x102001, x106000, x106001, x106002 => if x73 = true then (some false) else (if 0 ≤ x3 then (if x3 ≤ (x102001.length : Int) then ((some (x102001.take (x3 : Int).toNat : List (S56))).bind fun y112 => (impl_ShareBookOk.l1 k x31 x32 x33 y112 (y112.length : Int) 0 x102000 x102001 x106000 x106001 x106002)) else (none)) else (none))
def impl_ShareBookOk.l1 : Nat → List (S56) → Int → Int → List (S56) → Int → Int → List ByteArray → List (S56) → ByteArray → List ByteArray → List ByteArray → Option (Bool)
 | 0, _, _, _, _, _, _, _, _, _, _, _ => none
 | k + 1, x31, x32, x33, x77, x78, x79, x102000, x102001, x106000, x106001, x106002 => if x79 < x78 then (if 0 ≤ x79 then (if x79 < (x77.length : Int) then ((impl_common.f x106001 ((rd_T56 x77 x79).f1)).bind fun t118 => (if t118 = true then (some false) else (impl_ShareBookOk.l1 k x31 x32 x33 x77 x78 (wrap64 (x79 + 1)) x102000 x102001 x106000 x106001 x106002))) else (none)) else (none)) else (impl_ShareBookOk.l0 k x31 x32 (wrap64 (x33 + 1)) x102000 x102001)
end
def impl_ShareBookOk.f (k : Nat) (l0_0 : List ByteArray) (l0_1 : List (S56)) : Option (Bool) := if (l0_0.length : Int) > 8 then (impl_ShareBookOk.j0 k true l0_0 l0_1) else (if (l0_1.length : Int) > 5 then (impl_ShareBookOk.j0 k true l0_0 l0_1) else ((impl_of.f k l0_0 l0_0).bind fun t102 => (if t102 = true then ((slices_ContainsFunc_string_string.f l0_0).bind fun t103 => (impl_ShareBookOk.j0 k t103 l0_0 l0_1)) else (impl_ShareBookOk.j0 k true l0_0 l0_1))))
def impl_ShareBookOk.T6 : Bool × List (List Nat × List Nat) := (true, [([], []), ([0], [0]), ([1], [1]), ([2], [2]), ([3, 2], [3]), ([4], [4]), ([5, 4], [4, 5]), ([6, 4, 4], [4, 6]), ([7], [7]), ([8, 7], [7, 8]), ([7], [7]), ([10, 7], [7, 10]), ([9, 11, 7], [7, 9, 11]), ([12, 7], [7, 12]), ([13, 7], [7, 13]), ([7], [7]), ([15, 7], [7, 15]), ([14, 16, 7], [7, 14, 16]), ([7, 17, 4], [4, 7, 17]), ([4, 18], [4, 18]), ([19, 7], [19]), ([20], [20]), ([21, 20], [20, 21]), ([20], [20]), ([23, 20], [20, 23]), ([22, 24, 20, 20], [20, 22, 24]), ([25, 20], [20, 25]), ([20, 26], [20, 26]), ([27, 25], [27]), ([28], [28]), ([29, 28], [28, 29]), ([28], [28]), ([31, 28], [28, 31]), ([30, 32, 28, 28], [28, 30, 32]), ([33, 28], [28, 33]), ([28, 34], [28, 34])])
def impl_ShareBookOk.B6 : List Nat := [0, 1, 3, 7, 15, 31, 63, 127, 255, 511, 255, 1279, 4095, 8191, 16383, 255, 33023, 131071, 262143, 524287, 1048575, 2097151, 4194303, 2097151, 10485759, 33554431, 67108863, 134217727, 268435455, 536870911, 1073741823, 536870911, 2684354559, 8589934591, 17179869183, 34359738367]
theorem impl_ShareBookOk.tab6 : rtab .any (opsOf Try.f24 6) = impl_ShareBookOk.T6 := by kernel_rfl
theorem impl_ShareBookOk.bits6 : waitsOk impl_ShareBookOk.T6.2 impl_ShareBookOk.B6 = true := by kernel_rfl
set_option maxHeartbeats 8000000 in
set_option maxRecDepth 100000 in
theorem impl_ShareBookOk.calls (k : Nat) (A0_0 : Option Addr) (c0_0 : Nat) (l0_0 : List ByteArray) (A0_1 : Option Addr) (c0_1 : Nat) (l0_1 : List (S56)) (r : Bool) (w : World) (hr0_0 : Kd.C Kd.string w A0_0 l0_0.length l0_0) (hc0_0 : l0_0.length ≤ c0_0) (hr0_1 : Kd.C k56 w A0_1 l0_1.length l0_1) (hc0_1 : l0_1.length ≤ c0_1) (h : impl_ShareBookOk.f k l0_0 l0_1 = some r) :
  Calls Try.prog 24 #[.agg #[.slice A0_0 l0_0.length c0_0, .slice A0_1 l0_1.length c0_1]] w fun e w' => e = .returned (.bool r) ∧ Below w.heap.size w w' := by
 have hu31 := Try.underlying31
 have hu56 := Try.underlying56
 have HR0_0 := am hr0_0
 have HC0_0 := am hc0_0
 clear hr0_0 hc0_0
 have HR0_1 := am hr0_1
 have HC0_1 := am hc0_1
 clear hr0_1 hc0_1
 have HB := am (Below.refl w.heap.size w)
 have H : (if (l0_0.length : Int) > 8 then (impl_ShareBookOk.j0 k true l0_0 l0_1) else (if (l0_1.length : Int) > 5 then (impl_ShareBookOk.j0 k true l0_0 l0_1) else ((impl_of.f k l0_0 l0_0).bind fun t102 => (if t102 = true then ((slices_ContainsFunc_string_string.f l0_0).bind fun t103 => (impl_ShareBookOk.j0 k t103 l0_0 l0_1)) else (impl_ShareBookOk.j0 k true l0_0 l0_1))))) = some r := h
 clear h
 have HC2 := am H
 clear H
 go_enter Try.func24, Try.ntmps24
 go_upto_region 1 with (first | ((try (refine gate_guard (by rfl) ?_; dsimp only)); refine bX 1 #[.slice A0_0 l0_0.length c0_0, .slice A0_1 l0_1.length c0_1] 31 ?_; intro gb101 hg w3 hbox hb; have BK101 := am (hbox); have GW101 := am (pY52 : w.heap.size ≤ gb101); have GE101 := am (pY52 : w.heap.size ≤ gb101); replace HB := bS pY55 hb; clear hb hbox hg))
 (try simp only [Act.put, List.setIfInBounds_toArray, List.set_cons_zero, List.set_cons_succ])
 go_cut [29] (fun v29 wc => ∃ (kq : Nat) (x29_1 : Bool), v29 = .bool x29_1 ∧ Aside0 (impl_ShareBookOk.j0 kq x29_1 l0_0 l0_1 = some r) ∧ Aside0 (kq ≤ k) ∧ Aside0 (wc.heap[gb101]? = some (.cells #[(.slice A0_0 l0_0.length c0_0), (.slice A0_1 l0_1.length c0_1)] 31 (0, 0))) ∧ Aside0 (Below w.heap.size w wc))
 case first =>
  have H := HC2.1
  clear HC2
  by_cases c4 : (l0_0.length : Int) > 8
  ·rw [if_pos c4] at H
   have c4b0 : decide (8 < (l0_0.length : Int)) = true := decide_eq_true c4
   have c4b1 : decide (8 < l0_0.length) = true := decide_eq_true (by omega)
   clear c4
   (first | rw [c4b0] | (simp only [i64_w, i32_w]; rw [c4b0]) | skip)
   have H' := am H
   clear H
   obtain ⟨hcz5_0, hcz5_1, hfz5_0, hfz5_1⟩ := cz2 BK101
   go_wp2
   go_meet
   case rel => exact ⟨_, (true), (pY83), H', ⟨by first | omega | exact Nat.le_refl _⟩, ⟨rB BK101.1⟩, ⟨pY53⟩⟩
  ·rw [if_neg c4] at H
   have c4b0 : decide (8 < (l0_0.length : Int)) = false := decide_eq_false c4
   have c4b1 : decide (8 < l0_0.length) = false := decide_eq_false (by omega)
   clear c4
   (first | rw [c4b0] | (simp only [i64_w, i32_w]; rw [c4b0]) | skip)
   by_cases c6 : (l0_1.length : Int) > 5
   ·rw [if_pos c6] at H
    have c6b0 : decide (5 < (l0_1.length : Int)) = true := decide_eq_true c6
    have c6b1 : decide (5 < l0_1.length) = true := decide_eq_true (by omega)
    clear c6
    have H' := am H
    clear H
    obtain ⟨hcz7_0, hcz7_1, hfz7_0, hfz7_1⟩ := cz2 BK101
    go_wp2
    go_meet
    case rel => exact ⟨_, (true), (pY83), H', ⟨by first | omega | exact Nat.le_refl _⟩, ⟨rB BK101.1⟩, ⟨pY53⟩⟩
   ·rw [if_neg c6] at H
    have c6b0 : decide (5 < (l0_1.length : Int)) = false := decide_eq_false c6
    have c6b1 : decide (5 < l0_1.length) = false := decide_eq_false (by omega)
    clear c6
    obtain ⟨t102, A8, H⟩ := bd H
    by_cases c9 : t102 = true
    ·subst c9
     replace H := iT H
     obtain ⟨t103, A10, H⟩ := bd H
     have H' := am H
     clear H
     obtain ⟨hcz11_0, hcz11_1, hfz11_0, hfz11_1⟩ := cz2 BK101
     go_wp2_with (first | (go_at_call 74; refine cM (impl_of.calls k _ _ l0_0 _ _ l0_0 true _ (pB HR0_0) HC0_0.1 (pB HR0_0) HC0_0.1 A8.out) ?_; rintro w' ⟨nd, rfl⟩) | (go_at_call 75; refine cM (slices_ContainsFunc_string_string.calls _ _ l0_0  t103 _ (pC (Kd.C_below HR0_0.1 (pY53))) HC0_0.1 A10.out) ?_; rintro w12 hb; replace BK101 := bB pY58 hb; replace HB := bS pY53 hb; (try clear hb); (try clear hb2); (try clear hk); (try clear hi)))
     go_meet
     case rel => exact ⟨_, (t103), (pY83), H', ⟨by first | omega | exact Nat.le_refl _⟩, ⟨rB BK101.1⟩, ⟨pY53⟩⟩
    ·replace c9 := Bool.eq_false_iff.mpr c9
     subst c9
     replace H := iF H
     have H' := am H
     clear H
     obtain ⟨hcz13_0, hcz13_1, hfz13_0, hfz13_1⟩ := cz2 BK101
     go_wp2_with (first | (go_at_call 74; refine cM (impl_of.calls k _ _ l0_0 _ _ l0_0 false _ (pB HR0_0) HC0_0.1 (pB HR0_0) HC0_0.1 A8.out) ?_; rintro w' ⟨nd, rfl⟩))
     go_meet
     case rel => exact ⟨_, (true), (pY83), H', ⟨by first | omega | exact Nat.le_refl _⟩, ⟨rB BK101.1⟩, ⟨pY53⟩⟩
 case rest =>
  clear HC2
  obtain ⟨kq, x29_1, rfl, HA, HJ1, BK101, HB⟩ := hcut
  cases kq with
  | zero => exact absurd HA.out (by simp [impl_ShareBookOk.j0])
  | succ kj1 =>
   have H := HA.out
   clear HA
   simp only [impl_ShareBookOk.j0] at H
   by_cases c14 : x29_1 = true
   ·subst c14
    replace H := iT H
    obtain rfl := Option.some.inj H
    go_wp2
    go_ret
    exact ⟨by first | rfl | (simp [errW_none, errW_some] <;> rfl) | (simp [*, errW_none, errW_some] <;> rfl), pY53⟩
   ·replace c14 := Bool.eq_false_iff.mpr c14
    subst c14
    replace H := iF H
    have H' := am H
    clear H
    obtain ⟨hcz15_0, hcz15_1, hfz15_0, hfz15_1⟩ := cz2 BK101
    go_wp2
    go_loopg [33] kj1 (fun kq v33 w' => ∃ (x33_2 : Int), v33 = .int .i64 x33_2 ∧ Aside0 (impl_ShareBookOk.l0 kq l0_1 (l0_1.length : Int) x33_2 l0_0 l0_1 = some r) ∧ Aside0 (kq ≤ kj1) ∧ Aside0 (w'.heap[gb101]? = some (.cells #[(.slice A0_0 l0_0.length c0_0), (.slice A0_1 l0_1.length c0_1)] 31 (0, 0))) ∧ Aside0 (Below w.heap.size w w'))
    case atStart => exact ⟨(0), (pY83), H', ⟨Nat.le_refl _⟩, ⟨rB BK101.1⟩, ⟨pY53⟩⟩
    case round =>
     clear H'
     try clear c14
     try clear hcz15_0
     try clear hcz15_1
     try clear hfz15_0
     try clear hfz15_1
     obtain ⟨x33_2, rfl, HA, HK2, BK101, HB⟩ := hrel
     cases gk with
     | zero => exact absurd HA.out (by simp [impl_ShareBookOk.l0])
     | succ k2 =>
      have H := HA.out
      clear HA
      simp only [impl_ShareBookOk.l0] at H
      by_cases c16 : x33_2 < (l0_1.length : Int)
      ·rw [if_pos c16] at H
       have c16b0 : decide (x33_2 < (l0_1.length : Int)) = true := decide_eq_true c16
       clear c16
       by_cases c17 : 0 ≤ x33_2
       ·rw [if_pos c17] at H
        have c17b0 : decide (0 ≤ x33_2) = true := decide_eq_true c17
        clear c17
        by_cases c18 : x33_2 < (l0_1.length : Int)
        ·rw [if_pos c18] at H
         have c18b0 : decide (x33_2 < (l0_1.length : Int)) = true := decide_eq_true c18
         clear c18
         have HC19 := am H
         clear H
         have p104 : 0 ≤ (x33_2 : Int) := of_decide_eq_true (pY82)
         have q104 : x33_2 < (l0_1.length : Int) := of_decide_eq_true (pY82)
         obtain ⟨ad104, A104_1, c104_1, A104_2, c104_2, e104, hx104_0, hx104_1, hx104_2, hl104_1, hi104_1, hl104_2, hi104_2⟩ := at_T56 HR0_1.1 x33_2 p104 q104
         cases e104
         replace hx104_0 := hX HB hx104_0
         replace hx104_1 := hX HB hx104_1
         replace hx104_2 := hX HB hx104_2
         have HR104_1 := am hi104_1
         have HC104_1 := am hl104_1
         clear hi104_1 hl104_1
         have HR104_2 := am hi104_2
         have HC104_2 := am hl104_2
         clear hi104_2 hl104_2
         replace p104 := eq_true p104
         replace q104 := eq_true q104
         go_upto_region 6 with (first | ((try (refine gate_guard (by rfl) ?_; dsimp only)); refine bX 4 #[.string (⟨#[]⟩ : ByteArray), .slice none 0 0, .slice none 0 0] 56 ?_; intro gb105 hg w20 hbox hb; have BK105 := am (hbox); have GW105 := am (pY45 : w.heap.size ≤ gb105); have GE105 := am (pY45 : w.heap.size ≤ gb105); replace HB := bS pY53 hb; have NB101_105 := nL pY58 hg; have NB105_101 := nG pY58 hg; replace BK101 := bB pY58 hb; clear hb hbox hg; have hnb21 := NB105_101.1; have hnc21 := NB101_105.1; obtain ⟨hcz22_0, hcz22_1, hcz22_2, hfz22_0, hfz22_1, hfz22_2⟩ := cz3 BK105))
         (try simp only [Act.put, List.setIfInBounds_toArray, List.set_cons_zero, List.set_cons_succ])
         go_cut [73] (fun v73 wc => ∃ (kq : Nat) (x73_18 : Bool), v73 = .bool x73_18 ∧ Aside0 (impl_ShareBookOk.j2 kq x33_2 l0_1 (l0_1.length : Int) x33_2 x73_18 l0_0 l0_1 ((rd_T56 l0_1 x33_2).f0) ((rd_T56 l0_1 x33_2).f1) ((rd_T56 l0_1 x33_2).f2) = some r) ∧ Aside0 (kq ≤ k2) ∧ Aside0 (wc.heap[gb101]? = some (.cells #[(.slice A0_0 l0_0.length c0_0), (.slice (some ad104) l0_1.length c0_1)] 31 (0, 0))) ∧ Aside0 (wc.heap[gb105]? = some (.cells #[.string ((rd_T56 l0_1 x33_2).f0), (.slice A104_1 ((rd_T56 l0_1 x33_2).f1).length c104_1), (.slice A104_2 ((rd_T56 l0_1 x33_2).f2).length c104_2)] 56 (0, 0))) ∧ Aside0 (Below w.heap.size w wc))
         case first =>
          have H := HC19.1
          clear HC19
          obtain ⟨t106, A23, H⟩ := bd H
          by_cases c24 : t106 = true
          ·subst c24
           replace H := iT H
           by_cases c25 : x33_2 > 0
           ·rw [if_pos c25] at H
            have c25b0 : decide (0 < x33_2) = true := decide_eq_true c25
            clear c25
            (first | rw [c25b0] | (simp only [i64_w, i32_w]; rw [c25b0]) | skip)
            obtain ⟨ji26, hji26⟩ : ∃ j_ : Int, (wrap64 (x33_2 - 1)) = j_ := ⟨_, rfl⟩
            replace H : (if 0 ≤ (ji26) then (if (ji26) < (l0_1.length : Int) then (if ((Op.bytesLess (((rd_T56 l0_1 (ji26)).f0).toList) (((rd_T56 l0_1 x33_2).f0).toList)) = true) then ((impl_of.f k2 ((rd_T56 l0_1 x33_2).f2) l0_0).bind fun t108 => (if t108 = true then ((impl_of.f k2 ((rd_T56 l0_1 x33_2).f1) ((rd_T56 l0_1 x33_2).f2)).bind fun t109 => (impl_ShareBookOk.j2 k2 x33_2 l0_1 (l0_1.length : Int) x33_2 (!t109) l0_0 l0_1 ((rd_T56 l0_1 x33_2).f0) ((rd_T56 l0_1 x33_2).f1) ((rd_T56 l0_1 x33_2).f2))) else (impl_ShareBookOk.j2 k2 x33_2 l0_1 (l0_1.length : Int) x33_2 true l0_0 l0_1 ((rd_T56 l0_1 x33_2).f0) ((rd_T56 l0_1 x33_2).f1) ((rd_T56 l0_1 x33_2).f2)))) else (impl_ShareBookOk.j2 k2 x33_2 l0_1 (l0_1.length : Int) x33_2 true l0_0 l0_1 ((rd_T56 l0_1 x33_2).f0) ((rd_T56 l0_1 x33_2).f1) ((rd_T56 l0_1 x33_2).f2))) else (none)) else (none)) = some r := by first | (rw [hji26] at H; exact H) | (simp only [hji26] at H ⊢; exact H)
            (try rw [hji26] at A23)
            have hji26w : (IntKind.i64.wrap (x33_2 - 1)) = ji26 := (i64_w _).trans hji26
            by_cases c27 : 0 ≤ (ji26)
            ·rw [if_pos c27] at H
             have c27b0 : decide (0 ≤ (ji26)) = true := decide_eq_true c27
             clear c27
             by_cases c28 : (ji26) < (l0_1.length : Int)
             ·rw [if_pos c28] at H
              have c28b0 : decide ((ji26) < (l0_1.length : Int)) = true := decide_eq_true c28
              clear c28
              by_cases c29 : ((Op.bytesLess (((rd_T56 l0_1 (ji26)).f0).toList) (((rd_T56 l0_1 x33_2).f0).toList)) = true)
              ·rw [if_pos c29] at H
               have c29b0 : (Op.bytesLess (((rd_T56 l0_1 (ji26)).f0).toList) (((rd_T56 l0_1 x33_2).f0).toList)) = true := c29
               clear c29
               obtain ⟨t108, A30, H⟩ := bd H
               by_cases c31 : t108 = true
               ·subst c31
                replace H := iT H
                obtain ⟨t109, A32, H⟩ := bd H
                have H' := am H
                clear H
                try go_wp2
                obtain ⟨w33, eW_⟩ : ∃ w_, w_ = (((w20.setCell ⟨gb105, 0, none⟩ (.string ((rd_T56 l0_1 x33_2).f0))).setCell ⟨gb105, 1, none⟩ (.slice A104_1 ((rd_T56 l0_1 x33_2).f1).length c104_1)).setCell ⟨gb105, 2, none⟩ (.slice A104_2 ((rd_T56 l0_1 x33_2).f2).length c104_2)) := ⟨_, rfl⟩
                rw [← eW_]
                replace BK101 := uF3 eW_ BK101 NB101_105
                replace BK105 := uP3 eW_ BK105
                replace HB := uC3 eW_ HB GE105
                clear eW_
                replace BK101 := am (blk_drew BK101.1)
                replace BK105 := am (blk_drew BK105.1)
                replace HB := am (below_drew1 HB.1)
                have p107 : 0 ≤ ((ji26) : Int) := of_decide_eq_true (pY82)
                have q107 : (ji26) < (l0_1.length : Int) := of_decide_eq_true (pY82)
                obtain ⟨ad107, A107_1, c107_1, A107_2, c107_2, e107, hx107_0, hx107_1, hx107_2, hl107_1, hi107_1, hl107_2, hi107_2⟩ := at_T56 HR0_1.1 (ji26) p107 q107
                have hw107_2 := hx107_2
                have hw107_1 := hx107_1
                have hw107_0 := hx107_0
                obtain rfl : ad104 = ad107 := (by injection e107)
                replace hx107_0 := hX HB hx107_0
                replace hx107_1 := hX HB hx107_1
                replace hx107_2 := hX HB hx107_2
                have HR107_1 := am hi107_1
                have HC107_1 := am hl107_1
                clear hi107_1 hl107_1
                have HR107_2 := am hi107_2
                have HC107_2 := am hl107_2
                clear hi107_2 hl107_2
                replace p107 := eq_true p107
                replace q107 := eq_true q107
                refine sT [] 36 (uB3 BK105 (uB2 BK101 (uBx HB hw107_0 (uBx HB hw107_1 (uAx HB hw107_2))))) (fun hHeld => ?_); refine with_tabW impl_ShareBookOk.tab6 impl_ShareBookOk.bits6 (fun HT_ HW_ => ?_)
                generalize w33.drew = w34 at BK101 BK105 HB HR107_1 HR107_2 hx107_0 hx107_1 hx107_2 hHeld ⊢
                refine pU 0 (some 38) ?_
                refine tK8 1 (some 39) ?_
                refine oN 2 (some 40) fun K hK => ?_
                refine goes_ Try.func77 (by kernel_rfl) rfl #[.string ((rd_T56 l0_1 x33_2).f0)] (by rfl) rfl rfl (pY54) ?_
                with_reducible refine (impl_name.calls k2 ((rd_T56 l0_1 x33_2).f0) true _ A23.out).mono ?_
                rintro e w' ⟨rfl, ⟨nd, rfl⟩⟩
                refine ⟨_, rfl, ?_⟩
                refine hK.out _ _ (uB3 BK105 (uB2 BK101 (uBx HB hw107_0 (uBx HB hw107_1 (uAx HB hw107_2))))).1 (fun hHeld => ?_)
                clear hK K
                refine nM ?_
                refine pU 3 (some 41) ?_
                refine pU 4 (some 42) ?_
                refine pU 5 (some 43) ?_
                refine pU 6 (some 44) ?_
                refine pU 7 (some 45) ?_
                refine pU 8 (some 46) ?_
                refine pU 10 (some 48) ?_
                refine pU 11 (some 49) ?_
                refine pU 15 (some 53) ?_
                refine tK8 9 (some 47) ?_
                refine pU 12 (some 50) ?_
                refine pU 13 (some 51) ?_
                refine tK8 14 (some 52) ?_
                refine tK8 16 (some 54) ?_
                refine pU 17 (some 55) ?_
                refine pU 18 (some 56) ?_
                refine pU 19 (some 57) ?_
                refine pU 20 (some 58) ?_
                refine pU 21 (some 59) ?_
                refine pU 23 (some 61) ?_
                refine tK8 22 (some 60) ?_
                refine tK8 24 (some 62) ?_
                refine oN 25 (some 63) fun K hK => ?_
                refine goes_ Try.func74 (by kernel_rfl) rfl #[.slice A104_2 ((rd_T56 l0_1 x33_2).f2).length c104_2, .slice A0_0 l0_0.length c0_0] (by rfl) rfl rfl (pY54) ?_
                with_reducible refine (impl_of.calls k2 _ _ ((rd_T56 l0_1 x33_2).f2) _ _ l0_0 true _ ?side1 ?side2 ?side3 ?side4 A30.out).mono ?_
                (case side1 => exact pC (Kd.C_below HR104_2.1 (pY48)))
                (case side2 => exact HC104_2.1)
                (case side3 => exact pC (Kd.C_below HR0_0.1 (pY48)))
                (case side4 => exact HC0_0.1)
                rintro e w' ⟨rfl, ⟨nd, rfl⟩⟩
                refine ⟨_, rfl, ?_⟩
                refine hK.out _ _ (uB3 BK105 (uB2 BK101 (uBx HB hw107_0 (uBx HB hw107_1 (uAx HB hw107_2))))).1 (fun hHeld => ?_)
                clear hK K
                refine nM ?_
                refine pU 26 (some 64) ?_
                refine pU 27 (some 65) ?_
                refine pU 28 (some 66) ?_
                refine pU 29 (some 67) ?_
                refine pU 31 (some 69) ?_
                refine tK8 30 (some 68) ?_
                refine tK8 32 (some 70) ?_
                refine oN 33 (some 71) fun K hK => ?_
                refine goes_ Try.func74 (by kernel_rfl) rfl #[.slice A104_1 ((rd_T56 l0_1 x33_2).f1).length c104_1, .slice A104_2 ((rd_T56 l0_1 x33_2).f2).length c104_2] (by rfl) rfl rfl (pY54) ?_
                with_reducible refine (impl_of.calls k2 _ _ ((rd_T56 l0_1 x33_2).f1) _ _ ((rd_T56 l0_1 x33_2).f2) t109 _ ?side1 ?side2 ?side3 ?side4 A32.out).mono ?_
                (case side1 => exact pC (Kd.C_below HR104_1.1 (pY48)))
                (case side2 => exact HC104_1.1)
                (case side3 => exact pC (Kd.C_below HR104_2.1 (pY48)))
                (case side4 => exact HC104_2.1)
                rintro e w' ⟨rfl, ⟨nd, rfl⟩⟩
                refine ⟨_, rfl, ?_⟩
                refine hK.out _ _ (uB3 BK105 (uB2 BK101 (uBx HB hw107_0 (uBx HB hw107_1 (uAx HB hw107_2))))).1 (fun hHeld => ?_)
                clear hK K
                refine nM ?_
                refine pU 34 (some 72) ?_
                refine pU 35 (some 73) ?_
                refine done_ (done_of HT_.out (by kernel_rfl)) ?_
                try go_wp2
                go_meet
                case rel => exact ⟨_, (!t109), (pY83), H', ⟨by have := HJ1.out; have := HK2.out; first | omega | exact Nat.le_refl _⟩, ⟨rB BK101.1⟩, ⟨rB BK105.1⟩, ⟨pY48⟩⟩
               ·replace c31 := Bool.eq_false_iff.mpr c31
                subst c31
                replace H := iF H
                have H' := am H
                clear H
                try go_wp2
                obtain ⟨w35, eW_⟩ : ∃ w_, w_ = (((w20.setCell ⟨gb105, 0, none⟩ (.string ((rd_T56 l0_1 x33_2).f0))).setCell ⟨gb105, 1, none⟩ (.slice A104_1 ((rd_T56 l0_1 x33_2).f1).length c104_1)).setCell ⟨gb105, 2, none⟩ (.slice A104_2 ((rd_T56 l0_1 x33_2).f2).length c104_2)) := ⟨_, rfl⟩
                rw [← eW_]
                replace BK101 := uF3 eW_ BK101 NB101_105
                replace BK105 := uP3 eW_ BK105
                replace HB := uC3 eW_ HB GE105
                clear eW_
                replace BK101 := am (blk_drew BK101.1)
                replace BK105 := am (blk_drew BK105.1)
                replace HB := am (below_drew1 HB.1)
                have p107 : 0 ≤ ((ji26) : Int) := of_decide_eq_true (pY82)
                have q107 : (ji26) < (l0_1.length : Int) := of_decide_eq_true (pY82)
                obtain ⟨ad107, A107_1, c107_1, A107_2, c107_2, e107, hx107_0, hx107_1, hx107_2, hl107_1, hi107_1, hl107_2, hi107_2⟩ := at_T56 HR0_1.1 (ji26) p107 q107
                have hw107_2 := hx107_2
                have hw107_1 := hx107_1
                have hw107_0 := hx107_0
                obtain rfl : ad104 = ad107 := (by injection e107)
                replace hx107_0 := hX HB hx107_0
                replace hx107_1 := hX HB hx107_1
                replace hx107_2 := hX HB hx107_2
                have HR107_1 := am hi107_1
                have HC107_1 := am hl107_1
                clear hi107_1 hl107_1
                have HR107_2 := am hi107_2
                have HC107_2 := am hl107_2
                clear hi107_2 hl107_2
                replace p107 := eq_true p107
                replace q107 := eq_true q107
                refine sT [] 36 (uB3 BK105 (uB2 BK101 (uBx HB hw107_0 (uBx HB hw107_1 (uAx HB hw107_2))))) (fun hHeld => ?_); refine with_tabW impl_ShareBookOk.tab6 impl_ShareBookOk.bits6 (fun HT_ HW_ => ?_)
                generalize w35.drew = w36 at BK101 BK105 HB HR107_1 HR107_2 hx107_0 hx107_1 hx107_2 hHeld ⊢
                refine pU 0 (some 38) ?_
                refine tK8 1 (some 39) ?_
                refine oN 2 (some 40) fun K hK => ?_
                refine goes_ Try.func77 (by kernel_rfl) rfl #[.string ((rd_T56 l0_1 x33_2).f0)] (by rfl) rfl rfl (pY54) ?_
                with_reducible refine (impl_name.calls k2 ((rd_T56 l0_1 x33_2).f0) true _ A23.out).mono ?_
                rintro e w' ⟨rfl, ⟨nd, rfl⟩⟩
                refine ⟨_, rfl, ?_⟩
                refine hK.out _ _ (uB3 BK105 (uB2 BK101 (uBx HB hw107_0 (uBx HB hw107_1 (uAx HB hw107_2))))).1 (fun hHeld => ?_)
                clear hK K
                refine nM ?_
                refine pU 3 (some 41) ?_
                refine pU 4 (some 42) ?_
                refine pU 5 (some 43) ?_
                refine pU 6 (some 44) ?_
                refine pU 7 (some 45) ?_
                refine pU 8 (some 46) ?_
                refine pU 10 (some 48) ?_
                refine pU 11 (some 49) ?_
                refine pU 15 (some 53) ?_
                refine tK8 9 (some 47) ?_
                refine pU 12 (some 50) ?_
                refine pU 13 (some 51) ?_
                refine tK8 14 (some 52) ?_
                refine tK8 16 (some 54) ?_
                refine pU 17 (some 55) ?_
                refine pU 18 (some 56) ?_
                refine pU 19 (some 57) ?_
                refine pU 20 (some 58) ?_
                refine pU 21 (some 59) ?_
                refine pU 23 (some 61) ?_
                refine tK8 22 (some 60) ?_
                refine tK8 24 (some 62) ?_
                refine oN 25 (some 63) fun K hK => ?_
                refine goes_ Try.func74 (by kernel_rfl) rfl #[.slice A104_2 ((rd_T56 l0_1 x33_2).f2).length c104_2, .slice A0_0 l0_0.length c0_0] (by rfl) rfl rfl (pY54) ?_
                with_reducible refine (impl_of.calls k2 _ _ ((rd_T56 l0_1 x33_2).f2) _ _ l0_0 false _ ?side1 ?side2 ?side3 ?side4 A30.out).mono ?_
                (case side1 => exact pC (Kd.C_below HR104_2.1 (pY48)))
                (case side2 => exact HC104_2.1)
                (case side3 => exact pC (Kd.C_below HR0_0.1 (pY48)))
                (case side4 => exact HC0_0.1)
                rintro e w' ⟨rfl, ⟨nd, rfl⟩⟩
                refine ⟨_, rfl, ?_⟩
                refine hK.out _ _ (uB3 BK105 (uB2 BK101 (uBx HB hw107_0 (uBx HB hw107_1 (uAx HB hw107_2))))).1 (fun hHeld => ?_)
                clear hK K
                refine nM ?_
                refine pU 26 (some 64) ?_
                refine pU 27 (some 65) ?_
                refine pU 28 (some 66) ?_
                refine pV 29 (some 67) ?_
                refine pV 30 (some 68) ?_
                refine pV 31 (some 69) ?_
                refine pV 32 (some 70) ?_
                refine pV 33 (some 71) ?_
                refine pV 34 (some 72) ?_
                refine pU 35 (some 73) ?_
                refine done_ (done_of HT_.out (by kernel_rfl)) ?_
                try go_wp2
                go_meet
                case rel => exact ⟨_, (true), (pY83), H', ⟨by have := HJ1.out; have := HK2.out; first | omega | exact Nat.le_refl _⟩, ⟨rB BK101.1⟩, ⟨rB BK105.1⟩, ⟨pY48⟩⟩
              ·rw [if_neg c29] at H
               have c29b0 : (Op.bytesLess (((rd_T56 l0_1 (ji26)).f0).toList) (((rd_T56 l0_1 x33_2).f0).toList)) = false := by simpa using c29
               clear c29
               have H' := am H
               clear H
               try go_wp2
               obtain ⟨w37, eW_⟩ : ∃ w_, w_ = (((w20.setCell ⟨gb105, 0, none⟩ (.string ((rd_T56 l0_1 x33_2).f0))).setCell ⟨gb105, 1, none⟩ (.slice A104_1 ((rd_T56 l0_1 x33_2).f1).length c104_1)).setCell ⟨gb105, 2, none⟩ (.slice A104_2 ((rd_T56 l0_1 x33_2).f2).length c104_2)) := ⟨_, rfl⟩
               rw [← eW_]
               replace BK101 := uF3 eW_ BK101 NB101_105
               replace BK105 := uP3 eW_ BK105
               replace HB := uC3 eW_ HB GE105
               clear eW_
               replace BK101 := am (blk_drew BK101.1)
               replace BK105 := am (blk_drew BK105.1)
               replace HB := am (below_drew1 HB.1)
               have p107 : 0 ≤ ((ji26) : Int) := of_decide_eq_true (pY82)
               have q107 : (ji26) < (l0_1.length : Int) := of_decide_eq_true (pY82)
               obtain ⟨ad107, A107_1, c107_1, A107_2, c107_2, e107, hx107_0, hx107_1, hx107_2, hl107_1, hi107_1, hl107_2, hi107_2⟩ := at_T56 HR0_1.1 (ji26) p107 q107
               have hw107_2 := hx107_2
               have hw107_1 := hx107_1
               have hw107_0 := hx107_0
               obtain rfl : ad104 = ad107 := (by injection e107)
               replace hx107_0 := hX HB hx107_0
               replace hx107_1 := hX HB hx107_1
               replace hx107_2 := hX HB hx107_2
               have HR107_1 := am hi107_1
               have HC107_1 := am hl107_1
               clear hi107_1 hl107_1
               have HR107_2 := am hi107_2
               have HC107_2 := am hl107_2
               clear hi107_2 hl107_2
               replace p107 := eq_true p107
               replace q107 := eq_true q107
               refine sT [] 36 (uB3 BK105 (uB2 BK101 (uBx HB hw107_0 (uBx HB hw107_1 (uAx HB hw107_2))))) (fun hHeld => ?_); refine with_tabW impl_ShareBookOk.tab6 impl_ShareBookOk.bits6 (fun HT_ HW_ => ?_)
               generalize w37.drew = w38 at BK101 BK105 HB HR107_1 HR107_2 hx107_0 hx107_1 hx107_2 hHeld ⊢
               refine pU 0 (some 38) ?_
               refine tK8 1 (some 39) ?_
               refine oN 2 (some 40) fun K hK => ?_
               refine goes_ Try.func77 (by kernel_rfl) rfl #[.string ((rd_T56 l0_1 x33_2).f0)] (by rfl) rfl rfl (pY54) ?_
               with_reducible refine (impl_name.calls k2 ((rd_T56 l0_1 x33_2).f0) true _ A23.out).mono ?_
               rintro e w' ⟨rfl, ⟨nd, rfl⟩⟩
               refine ⟨_, rfl, ?_⟩
               refine hK.out _ _ (uB3 BK105 (uB2 BK101 (uBx HB hw107_0 (uBx HB hw107_1 (uAx HB hw107_2))))).1 (fun hHeld => ?_)
               clear hK K
               refine nM ?_
               refine pU 3 (some 41) ?_
               refine pU 4 (some 42) ?_
               refine pU 5 (some 43) ?_
               refine pU 6 (some 44) ?_
               refine pU 7 (some 45) ?_
               refine pU 8 (some 46) ?_
               refine pU 10 (some 48) ?_
               refine pU 11 (some 49) ?_
               refine pU 15 (some 53) ?_
               refine tK8 9 (some 47) ?_
               refine pU 12 (some 50) ?_
               refine pU 13 (some 51) ?_
               refine tK8 14 (some 52) ?_
               refine tK8 16 (some 54) ?_
               refine pU 17 (some 55) ?_
               refine pU 18 (some 56) ?_
               refine pU 19 (some 57) ?_
               refine pU 20 (some 58) ?_
               refine pV 21 (some 59) ?_
               refine pV 22 (some 60) ?_
               refine pV 23 (some 61) ?_
               refine pV 24 (some 62) ?_
               refine pV 25 (some 63) ?_
               refine pV 26 (some 64) ?_
               refine pU 27 (some 65) ?_
               refine pU 28 (some 66) ?_
               refine pV 29 (some 67) ?_
               refine pV 30 (some 68) ?_
               refine pV 31 (some 69) ?_
               refine pV 32 (some 70) ?_
               refine pV 33 (some 71) ?_
               refine pV 34 (some 72) ?_
               refine pU 35 (some 73) ?_
               refine done_ (done_of HT_.out (by kernel_rfl)) ?_
               try go_wp2
               go_meet
               case rel => exact ⟨_, (true), (pY83), H', ⟨by have := HJ1.out; have := HK2.out; first | omega | exact Nat.le_refl _⟩, ⟨rB BK101.1⟩, ⟨rB BK105.1⟩, ⟨pY48⟩⟩
             ·rw [if_neg c28] at H
              exact absurd H (by simp)
            ·rw [if_neg c27] at H
             exact absurd H (by simp)
           ·rw [if_neg c25] at H
            have c25b0 : decide (0 < x33_2) = false := decide_eq_false c25
            clear c25
            (first | rw [c25b0] | (simp only [i64_w, i32_w]; rw [c25b0]) | skip)
            obtain ⟨t110, A39, H⟩ := bd H
            by_cases c40 : t110 = true
            ·subst c40
             replace H := iT H
             obtain ⟨t111, A41, H⟩ := bd H
             have H' := am H
             clear H
             try go_wp2
             obtain ⟨w42, eW_⟩ : ∃ w_, w_ = (((w20.setCell ⟨gb105, 0, none⟩ (.string ((rd_T56 l0_1 x33_2).f0))).setCell ⟨gb105, 1, none⟩ (.slice A104_1 ((rd_T56 l0_1 x33_2).f1).length c104_1)).setCell ⟨gb105, 2, none⟩ (.slice A104_2 ((rd_T56 l0_1 x33_2).f2).length c104_2)) := ⟨_, rfl⟩
             rw [← eW_]
             replace BK101 := uF3 eW_ BK101 NB101_105
             replace BK105 := uP3 eW_ BK105
             replace HB := uC3 eW_ HB GE105
             clear eW_
             replace BK101 := am (blk_drew BK101.1)
             replace BK105 := am (blk_drew BK105.1)
             replace HB := am (below_drew1 HB.1)
             refine sT [] 36 (uB3 BK105 (uA2 BK101)) (fun hHeld => ?_); refine with_tabW impl_ShareBookOk.tab6 impl_ShareBookOk.bits6 (fun HT_ HW_ => ?_)
             generalize w42.drew = w43 at BK101 BK105 HB hHeld ⊢
             refine pU 0 (some 38) ?_
             refine tK5 1 (some 39) ?_
             refine oN 2 (some 40) fun K hK => ?_
             refine goes_ Try.func77 (by kernel_rfl) rfl #[.string ((rd_T56 l0_1 x33_2).f0)] (by rfl) rfl rfl (pY54) ?_
             with_reducible refine (impl_name.calls k2 ((rd_T56 l0_1 x33_2).f0) true _ A23.out).mono ?_
             rintro e w' ⟨rfl, ⟨nd, rfl⟩⟩
             refine ⟨_, rfl, ?_⟩
             refine hK.out _ _ (uB3 BK105 (uA2 BK101)).1 (fun hHeld => ?_)
             clear hK K
             refine nM ?_
             refine pU 3 (some 41) ?_
             refine pU 4 (some 42) ?_
             refine pU 5 (some 43) ?_
             refine pU 6 (some 44) ?_
             refine pU 7 (some 45) ?_
             refine pV 8 (some 46) ?_
             refine pV 9 (some 47) ?_
             refine pV 10 (some 48) ?_
             refine pV 11 (some 49) ?_
             refine pV 12 (some 50) ?_
             refine pV 13 (some 51) ?_
             refine pV 14 (some 52) ?_
             refine pV 15 (some 53) ?_
             refine pV 16 (some 54) ?_
             refine pV 17 (some 55) ?_
             refine pU 18 (some 56) ?_
             refine pU 19 (some 57) ?_
             refine pU 20 (some 58) ?_
             refine pU 21 (some 59) ?_
             refine pU 23 (some 61) ?_
             refine tK5 22 (some 60) ?_
             refine tK5 24 (some 62) ?_
             refine oN 25 (some 63) fun K hK => ?_
             refine goes_ Try.func74 (by kernel_rfl) rfl #[.slice A104_2 ((rd_T56 l0_1 x33_2).f2).length c104_2, .slice A0_0 l0_0.length c0_0] (by rfl) rfl rfl (pY54) ?_
             with_reducible refine (impl_of.calls k2 _ _ ((rd_T56 l0_1 x33_2).f2) _ _ l0_0 true _ ?side1 ?side2 ?side3 ?side4 A39.out).mono ?_
             (case side1 => exact pC (Kd.C_below HR104_2.1 (pY48)))
             (case side2 => exact HC104_2.1)
             (case side3 => exact pC (Kd.C_below HR0_0.1 (pY48)))
             (case side4 => exact HC0_0.1)
             rintro e w' ⟨rfl, ⟨nd, rfl⟩⟩
             refine ⟨_, rfl, ?_⟩
             refine hK.out _ _ (uB3 BK105 (uA2 BK101)).1 (fun hHeld => ?_)
             clear hK K
             refine nM ?_
             refine pU 26 (some 64) ?_
             refine pU 27 (some 65) ?_
             refine pU 28 (some 66) ?_
             refine pU 29 (some 67) ?_
             refine pU 31 (some 69) ?_
             refine tK5 30 (some 68) ?_
             refine tK5 32 (some 70) ?_
             refine oN 33 (some 71) fun K hK => ?_
             refine goes_ Try.func74 (by kernel_rfl) rfl #[.slice A104_1 ((rd_T56 l0_1 x33_2).f1).length c104_1, .slice A104_2 ((rd_T56 l0_1 x33_2).f2).length c104_2] (by rfl) rfl rfl (pY54) ?_
             with_reducible refine (impl_of.calls k2 _ _ ((rd_T56 l0_1 x33_2).f1) _ _ ((rd_T56 l0_1 x33_2).f2) t111 _ ?side1 ?side2 ?side3 ?side4 A41.out).mono ?_
             (case side1 => exact pC (Kd.C_below HR104_1.1 (pY48)))
             (case side2 => exact HC104_1.1)
             (case side3 => exact pC (Kd.C_below HR104_2.1 (pY48)))
             (case side4 => exact HC104_2.1)
             rintro e w' ⟨rfl, ⟨nd, rfl⟩⟩
             refine ⟨_, rfl, ?_⟩
             refine hK.out _ _ (uB3 BK105 (uA2 BK101)).1 (fun hHeld => ?_)
             clear hK K
             refine nM ?_
             refine pU 34 (some 72) ?_
             refine pU 35 (some 73) ?_
             refine done_ (done_of HT_.out (by kernel_rfl)) ?_
             try go_wp2
             go_meet
             case rel => exact ⟨_, (!t111), (pY83), H', ⟨by have := HJ1.out; have := HK2.out; first | omega | exact Nat.le_refl _⟩, ⟨rB BK101.1⟩, ⟨rB BK105.1⟩, ⟨pY48⟩⟩
            ·replace c40 := Bool.eq_false_iff.mpr c40
             subst c40
             replace H := iF H
             have H' := am H
             clear H
             try go_wp2
             obtain ⟨w44, eW_⟩ : ∃ w_, w_ = (((w20.setCell ⟨gb105, 0, none⟩ (.string ((rd_T56 l0_1 x33_2).f0))).setCell ⟨gb105, 1, none⟩ (.slice A104_1 ((rd_T56 l0_1 x33_2).f1).length c104_1)).setCell ⟨gb105, 2, none⟩ (.slice A104_2 ((rd_T56 l0_1 x33_2).f2).length c104_2)) := ⟨_, rfl⟩
             rw [← eW_]
             replace BK101 := uF3 eW_ BK101 NB101_105
             replace BK105 := uP3 eW_ BK105
             replace HB := uC3 eW_ HB GE105
             clear eW_
             replace BK101 := am (blk_drew BK101.1)
             replace BK105 := am (blk_drew BK105.1)
             replace HB := am (below_drew1 HB.1)
             refine sT [] 36 (uB3 BK105 (uA2 BK101)) (fun hHeld => ?_); refine with_tabW impl_ShareBookOk.tab6 impl_ShareBookOk.bits6 (fun HT_ HW_ => ?_)
             generalize w44.drew = w45 at BK101 BK105 HB hHeld ⊢
             refine pU 0 (some 38) ?_
             refine tK5 1 (some 39) ?_
             refine oN 2 (some 40) fun K hK => ?_
             refine goes_ Try.func77 (by kernel_rfl) rfl #[.string ((rd_T56 l0_1 x33_2).f0)] (by rfl) rfl rfl (pY54) ?_
             with_reducible refine (impl_name.calls k2 ((rd_T56 l0_1 x33_2).f0) true _ A23.out).mono ?_
             rintro e w' ⟨rfl, ⟨nd, rfl⟩⟩
             refine ⟨_, rfl, ?_⟩
             refine hK.out _ _ (uB3 BK105 (uA2 BK101)).1 (fun hHeld => ?_)
             clear hK K
             refine nM ?_
             refine pU 3 (some 41) ?_
             refine pU 4 (some 42) ?_
             refine pU 5 (some 43) ?_
             refine pU 6 (some 44) ?_
             refine pU 7 (some 45) ?_
             refine pV 8 (some 46) ?_
             refine pV 9 (some 47) ?_
             refine pV 10 (some 48) ?_
             refine pV 11 (some 49) ?_
             refine pV 12 (some 50) ?_
             refine pV 13 (some 51) ?_
             refine pV 14 (some 52) ?_
             refine pV 15 (some 53) ?_
             refine pV 16 (some 54) ?_
             refine pV 17 (some 55) ?_
             refine pU 18 (some 56) ?_
             refine pU 19 (some 57) ?_
             refine pU 20 (some 58) ?_
             refine pU 21 (some 59) ?_
             refine pU 23 (some 61) ?_
             refine tK5 22 (some 60) ?_
             refine tK5 24 (some 62) ?_
             refine oN 25 (some 63) fun K hK => ?_
             refine goes_ Try.func74 (by kernel_rfl) rfl #[.slice A104_2 ((rd_T56 l0_1 x33_2).f2).length c104_2, .slice A0_0 l0_0.length c0_0] (by rfl) rfl rfl (pY54) ?_
             with_reducible refine (impl_of.calls k2 _ _ ((rd_T56 l0_1 x33_2).f2) _ _ l0_0 false _ ?side1 ?side2 ?side3 ?side4 A39.out).mono ?_
             (case side1 => exact pC (Kd.C_below HR104_2.1 (pY48)))
             (case side2 => exact HC104_2.1)
             (case side3 => exact pC (Kd.C_below HR0_0.1 (pY48)))
             (case side4 => exact HC0_0.1)
             rintro e w' ⟨rfl, ⟨nd, rfl⟩⟩
             refine ⟨_, rfl, ?_⟩
             refine hK.out _ _ (uB3 BK105 (uA2 BK101)).1 (fun hHeld => ?_)
             clear hK K
             refine nM ?_
             refine pU 26 (some 64) ?_
             refine pU 27 (some 65) ?_
             refine pU 28 (some 66) ?_
             refine pV 29 (some 67) ?_
             refine pV 30 (some 68) ?_
             refine pV 31 (some 69) ?_
             refine pV 32 (some 70) ?_
             refine pV 33 (some 71) ?_
             refine pV 34 (some 72) ?_
             refine pU 35 (some 73) ?_
             refine done_ (done_of HT_.out (by kernel_rfl)) ?_
             try go_wp2
             go_meet
             case rel => exact ⟨_, (true), (pY83), H', ⟨by have := HJ1.out; have := HK2.out; first | omega | exact Nat.le_refl _⟩, ⟨rB BK101.1⟩, ⟨rB BK105.1⟩, ⟨pY48⟩⟩
          ·replace c24 := Bool.eq_false_iff.mpr c24
           subst c24
           replace H := iF H
           have H' := am H
           clear H
           try go_wp2
           obtain ⟨w46, eW_⟩ : ∃ w_, w_ = (((w20.setCell ⟨gb105, 0, none⟩ (.string ((rd_T56 l0_1 x33_2).f0))).setCell ⟨gb105, 1, none⟩ (.slice A104_1 ((rd_T56 l0_1 x33_2).f1).length c104_1)).setCell ⟨gb105, 2, none⟩ (.slice A104_2 ((rd_T56 l0_1 x33_2).f2).length c104_2)) := ⟨_, rfl⟩
           rw [← eW_]
           replace BK101 := uF3 eW_ BK101 NB101_105
           replace BK105 := uP3 eW_ BK105
           replace HB := uC3 eW_ HB GE105
           clear eW_
           replace BK101 := am (blk_drew BK101.1)
           replace BK105 := am (blk_drew BK105.1)
           replace HB := am (below_drew1 HB.1)
           refine sT [] 36 (uA3 BK105) (fun hHeld => ?_); refine with_tabW impl_ShareBookOk.tab6 impl_ShareBookOk.bits6 (fun HT_ HW_ => ?_)
           generalize w46.drew = w47 at BK101 BK105 HB hHeld ⊢
           refine pU 0 (some 38) ?_
           refine tK3 1 (some 39) ?_
           refine oN 2 (some 40) fun K hK => ?_
           refine goes_ Try.func77 (by kernel_rfl) rfl #[.string ((rd_T56 l0_1 x33_2).f0)] (by rfl) rfl rfl (pY54) ?_
           with_reducible refine (impl_name.calls k2 ((rd_T56 l0_1 x33_2).f0) false _ A23.out).mono ?_
           rintro e w' ⟨rfl, ⟨nd, rfl⟩⟩
           refine ⟨_, rfl, ?_⟩
           refine hK.out _ _ (uA3 BK105).1 (fun hHeld => ?_)
           clear hK K
           refine nM ?_
           refine pU 3 (some 41) ?_
           refine pU 4 (some 42) ?_
           refine pV 5 (some 43) ?_
           refine pV 6 (some 44) ?_
           refine pV 7 (some 45) ?_
           refine pV 8 (some 46) ?_
           refine pV 9 (some 47) ?_
           refine pV 10 (some 48) ?_
           refine pV 11 (some 49) ?_
           refine pV 12 (some 50) ?_
           refine pV 13 (some 51) ?_
           refine pV 14 (some 52) ?_
           refine pV 15 (some 53) ?_
           refine pV 16 (some 54) ?_
           refine pV 17 (some 55) ?_
           refine pV 18 (some 56) ?_
           refine pU 19 (some 57) ?_
           refine pU 20 (some 58) ?_
           refine pV 21 (some 59) ?_
           refine pV 22 (some 60) ?_
           refine pV 23 (some 61) ?_
           refine pV 24 (some 62) ?_
           refine pV 25 (some 63) ?_
           refine pV 26 (some 64) ?_
           refine pU 27 (some 65) ?_
           refine pU 28 (some 66) ?_
           refine pV 29 (some 67) ?_
           refine pV 30 (some 68) ?_
           refine pV 31 (some 69) ?_
           refine pV 32 (some 70) ?_
           refine pV 33 (some 71) ?_
           refine pV 34 (some 72) ?_
           refine pU 35 (some 73) ?_
           refine done_ (done_of HT_.out (by kernel_rfl)) ?_
           try go_wp2
           go_meet
           case rel => exact ⟨_, (true), (pY83), H', ⟨by have := HJ1.out; have := HK2.out; first | omega | exact Nat.le_refl _⟩, ⟨rB BK101.1⟩, ⟨rB BK105.1⟩, ⟨pY48⟩⟩
         case rest =>
          clear HC19
          obtain ⟨kq, x73_18, rfl, HA, HJ18, BK101, BK105, HB⟩ := hcut
          cases kq with
          | zero => exact absurd HA.out (by simp [impl_ShareBookOk.j2])
          | succ kj18 =>
           have H := HA.out
           clear HA
           simp only [impl_ShareBookOk.j2] at H
           by_cases c48 : x73_18 = true
           ·subst c48
            replace H := iT H
            obtain rfl := Option.some.inj H
            go_wp2
            go_ret
            exact ⟨by first | rfl | (simp [errW_none, errW_some] <;> rfl) | (simp [*, errW_none, errW_some] <;> rfl), pY48⟩
           ·replace c48 := Bool.eq_false_iff.mpr c48
            subst c48
            replace H := iF H
            by_cases c49 : 0 ≤ x33_2
            ·rw [if_pos c49] at H
             have c49b0 := eq_true c49
             have c49b1 : decide (0 ≤ x33_2) = true := decide_eq_true c49
             clear c49
             by_cases c50 : x33_2 ≤ (l0_1.length : Int)
             ·rw [if_pos c50] at H
              have c50b0 := eq_true c50
              have c50b1 : decide (x33_2 ≤ (l0_1.length : Int)) = true := decide_eq_true c50
              clear c50
              obtain ⟨y112, Ny112, H⟩ := bY H
              have H' := am H
              clear H
              have hnb51 := NB101_105.1
              have hnc51 := NB105_101.1
              obtain ⟨hcz52_0, hcz52_1, hfz52_0, hfz52_1⟩ := cz2 BK101
              have q53 : (x33_2 : Int) ≤ ((l0_1.length : Int) : Int) := of_decide_eq_true (pY82)
              obtain ⟨i053, hi053, _, hsz53, _⟩ := info_parts info56
              have hroom53 : l0_1.length ≤ c0_1 := HC0_1.1
              have hC53 : Kd.C k56 _ (some ad104) l0_1.length l0_1 := HR0_1.1
              have hcut53 := cut_to (P := Try.prog) 29 56 .i64 Try.underlying29 hi053 (some ad104) l0_1.length c0_1 x33_2 (of_decide_eq_true (pY82)) q53 hroom53
              have hr53 := Kd.C_take (m := (x33_2 : Int).toNat) hC53 (by omega)
              have hy53 : y112.length = (x33_2 : Int).toNat := (by rw [Ny112.out, List.length_take]; omega)
              rw [← Ny112.out] at hr53
              rw [← hy53] at hcut53
              have HR115 := am hr53
              have HC115 := am (show y112.length ≤ c0_1 from by omega)
              clear hr53 hC53 hroom53 hi053 hsz53
              have KY53 := am hy53
              clear hy53
              replace q53 := eq_true q53
              go_wp2
              go_loopg [79] kj18 (fun kq v79 w' => ∃ (x79_4 : Int), v79 = .int .i64 x79_4 ∧ Aside0 (impl_ShareBookOk.l1 kq l0_1 (l0_1.length : Int) x33_2 y112 (y112.length : Int) x79_4 l0_0 l0_1 ((rd_T56 l0_1 x33_2).f0) ((rd_T56 l0_1 x33_2).f1) ((rd_T56 l0_1 x33_2).f2) = some r) ∧ Aside0 (kq ≤ kj18) ∧ Aside0 (w'.heap[gb101]? = some (.cells #[(.slice A0_0 l0_0.length c0_0), (.slice (some ad104) l0_1.length c0_1)] 31 (0, 0))) ∧ Aside0 (w'.heap[gb105]? = some (.cells #[.string ((rd_T56 l0_1 x33_2).f0), (.slice A104_1 ((rd_T56 l0_1 x33_2).f1).length c104_1), (.slice A104_2 ((rd_T56 l0_1 x33_2).f2).length c104_2)] 56 (0, 0))) ∧ Aside0 (Below w.heap.size w w'))
              case atStart => exact ⟨(0), (pY83), H', ⟨Nat.le_refl _⟩, ⟨rB BK101.1⟩, ⟨rB BK105.1⟩, ⟨pY48⟩⟩
              case round =>
               clear H'
               try clear c48
               try clear c49
               try clear c49b0
               try clear c49b1
               try clear c50
               try clear c50b0
               try clear c50b1
               try clear q53
               try clear hcz52_0
               try clear hcz52_1
               try clear hfz52_0
               try clear hfz52_1
               try clear q53
               obtain ⟨x79_4, rfl, HA, HK4, BK101, BK105, HB⟩ := hrel
               cases gk with
               | zero => exact absurd HA.out (by simp [impl_ShareBookOk.l1])
               | succ k4 =>
                have H := HA.out
                clear HA
                simp only [impl_ShareBookOk.l1] at H
                by_cases c54 : x79_4 < (y112.length : Int)
                ·rw [if_pos c54] at H
                 have c54b0 : decide (x79_4 < (y112.length : Int)) = true := decide_eq_true c54
                 clear c54
                 by_cases c55 : 0 ≤ x79_4
                 ·rw [if_pos c55] at H
                  have c55b0 : decide (0 ≤ x79_4) = true := decide_eq_true c55
                  clear c55
                  by_cases c56 : x79_4 < (y112.length : Int)
                  ·rw [if_pos c56] at H
                   have c56b0 : decide (x79_4 < (y112.length : Int)) = true := decide_eq_true c56
                   clear c56
                   obtain ⟨t118, A57, H⟩ := bd H
                   by_cases c58 : t118 = true
                   ·subst c58
                    replace H := iT H
                    obtain rfl := Option.some.inj H
                    have p116 : 0 ≤ (x79_4 : Int) := of_decide_eq_true (pY82)
                    have q116 : x79_4 < (y112.length : Int) := of_decide_eq_true (pY82)
                    obtain ⟨ad116, A116_1, c116_1, A116_2, c116_2, e116, hx116_0, hx116_1, hx116_2, hl116_1, hi116_1, hl116_2, hi116_2⟩ := at_T56 HR115.1 x79_4 p116 q116
                    obtain rfl : ad104 = ad116 := (by injection e116)
                    replace hx116_0 := hX HB hx116_0
                    replace hx116_1 := hX HB hx116_1
                    replace hx116_2 := hX HB hx116_2
                    have HR116_1 := am hi116_1
                    have HC116_1 := am hl116_1
                    clear hi116_1 hl116_1
                    have HR116_2 := am hi116_2
                    have HC116_2 := am hl116_2
                    clear hi116_2 hl116_2
                    replace p116 := eq_true p116
                    replace q116 := eq_true q116
                    go_wp2_with (first | ((try (refine gate_guard (by rfl) ?_; dsimp only)); refine bX 6 #[.string (⟨#[]⟩ : ByteArray), .slice none 0 0, .slice none 0 0] 56 ?_; intro gb117 hg w59 hbox hb; have BK117 := am (hbox); have GW117 := am (pY40 : w.heap.size ≤ gb117); have GE117 := am (pY40 : w.heap.size ≤ gb117); replace HB := bS pY48 hb; have NB101_117 := nL pY58 hg; have NB117_101 := nG pY58 hg; replace BK101 := bB pY58 hb; have NB105_117 := am (by rw [hg]; exact Nat.ne_of_lt (blk_lt (g := gb105) (o := .cells #[.string ((rd_T56 l0_1 x33_2).f0), .slice A104_1 ((rd_T56 l0_1 x33_2).f1).length c104_1, .slice A104_2 ((rd_T56 l0_1 x33_2).f2).length c104_2] 56 (0, 0)) (rB BK105.1)) : gb105 ≠ gb117); have NB117_105 := am (by rw [hg]; exact Nat.ne_of_gt (blk_lt (g := gb105) (o := .cells #[.string ((rd_T56 l0_1 x33_2).f0), .slice A104_1 ((rd_T56 l0_1 x33_2).f1).length c104_1, .slice A104_2 ((rd_T56 l0_1 x33_2).f2).length c104_2] 56 (0, 0)) (rB BK105.1)) : gb117 ≠ gb105); replace BK105 := am (blk_below (g := gb105) (o := .cells #[.string ((rd_T56 l0_1 x33_2).f0), .slice A104_1 ((rd_T56 l0_1 x33_2).f1).length c104_1, .slice A104_2 ((rd_T56 l0_1 x33_2).f2).length c104_2] 56 (0, 0)) (rB BK105.1) hb); clear hb hbox hg; have hnb60 := NB117_101.1; have hnc60 := NB101_117.1; have hnb61 := NB117_105.1; have hnc61 := NB105_117.1; obtain ⟨hcz62_0, hcz62_1, hcz62_2, hfz62_0, hfz62_1, hfz62_2⟩ := cz3 BK117; have hnb63 := NB105_101.1; have hnc63 := NB101_105.1; obtain ⟨hcz64_0, hcz64_1, hcz64_2, hfz64_0, hfz64_1, hfz64_2⟩ := cz3 BK105) | ((with_reducible refine gate_callee (f := 78) rfl ?_); refine goesL_ (some 87) rfl rfl Try.func78 (by kernel_rfl) rfl #[.slice A104_1 ((rd_T56 l0_1 x33_2).f1).length c104_1, .slice A116_1 ((rd_T56 y112 x79_4).f1).length c116_1] rfl (pY54) ?_; (with_reducible refine (impl_common.calls _ _ ((rd_T56 l0_1 x33_2).f1) _ _ ((rd_T56 y112 x79_4).f1) true _ ?side1 ?side2 ?side3 ?side4 A57.out).mono ?_); (case side1 => exact Kd.C_below HR104_1.1 (pY44)); (case side2 => exact HC104_1.1); (case side3 => exact Kd.C_below HR116_1.1 (pY44)); (case side4 => exact HC116_1.1); rintro e w65 ⟨rfl, hb⟩; refine ⟨_, rfl, ?_⟩; replace BK101 := am (blk_below (g := gb101) (o := .cells #[.slice A0_0 l0_0.length c0_0, .slice (some ad104) l0_1.length c0_1] 31 (0, 0)) (by (with_reducible repeat (first | refine blk_drewN ?_ _ | refine blk_drew ?_ | refine blk_alloc ?_ _)); refine blk_far ?_ NB101_117.1 _; (with_reducible repeat (first | refine blk_drewN ?_ _ | refine blk_drew ?_ | refine blk_alloc ?_ _)); refine blk_far ?_ NB101_117.1 _; (with_reducible repeat (first | refine blk_drewN ?_ _ | refine blk_drew ?_ | refine blk_alloc ?_ _)); refine blk_far ?_ NB101_117.1 _; (with_reducible repeat (first | refine blk_drewN ?_ _ | refine blk_drew ?_ | refine blk_alloc ?_ _)); exact BK101.1) hb); replace BK105 := am (blk_below (g := gb105) (o := .cells #[.string ((rd_T56 l0_1 x33_2).f0), .slice A104_1 ((rd_T56 l0_1 x33_2).f1).length c104_1, .slice A104_2 ((rd_T56 l0_1 x33_2).f2).length c104_2] 56 (0, 0)) (by (with_reducible repeat (first | refine blk_drewN ?_ _ | refine blk_drew ?_ | refine blk_alloc ?_ _)); refine blk_far ?_ NB105_117.1 _; (with_reducible repeat (first | refine blk_drewN ?_ _ | refine blk_drew ?_ | refine blk_alloc ?_ _)); refine blk_far ?_ NB105_117.1 _; (with_reducible repeat (first | refine blk_drewN ?_ _ | refine blk_drew ?_ | refine blk_alloc ?_ _)); refine blk_far ?_ NB105_117.1 _; (with_reducible repeat (first | refine blk_drewN ?_ _ | refine blk_drew ?_ | refine blk_alloc ?_ _)); exact BK105.1) hb); replace BK117 := am (blk_below (g := gb117) (o := .cells #[.string ((rd_T56 y112 x79_4).f0), .slice A116_1 ((rd_T56 y112 x79_4).f1).length c116_1, .slice A116_2 ((rd_T56 y112 x79_4).f2).length c116_2] 56 (0, 0)) (pY0) hb); replace HB := bS pY44 hb; (try clear hb); (try clear hb2); (try clear hk); (try clear hi)))
                    go_ret
                    exact ⟨by first | rfl | (simp [errW_none, errW_some] <;> rfl) | (simp [*, errW_none, errW_some] <;> rfl), pY44⟩
                   ·replace c58 := Bool.eq_false_iff.mpr c58
                    subst c58
                    replace H := iF H
                    have H' := am H
                    clear H
                    have p116 : 0 ≤ (x79_4 : Int) := of_decide_eq_true (pY82)
                    have q116 : x79_4 < (y112.length : Int) := of_decide_eq_true (pY82)
                    obtain ⟨ad116, A116_1, c116_1, A116_2, c116_2, e116, hx116_0, hx116_1, hx116_2, hl116_1, hi116_1, hl116_2, hi116_2⟩ := at_T56 HR115.1 x79_4 p116 q116
                    obtain rfl : ad104 = ad116 := (by injection e116)
                    replace hx116_0 := hX HB hx116_0
                    replace hx116_1 := hX HB hx116_1
                    replace hx116_2 := hX HB hx116_2
                    have HR116_1 := am hi116_1
                    have HC116_1 := am hl116_1
                    clear hi116_1 hl116_1
                    have HR116_2 := am hi116_2
                    have HC116_2 := am hl116_2
                    clear hi116_2 hl116_2
                    replace p116 := eq_true p116
                    replace q116 := eq_true q116
                    go_wp2_with (first | ((try (refine gate_guard (by rfl) ?_; dsimp only)); refine bX 6 #[.string (⟨#[]⟩ : ByteArray), .slice none 0 0, .slice none 0 0] 56 ?_; intro gb117 hg w66 hbox hb; have BK117 := am (hbox); have GW117 := am (pY40 : w.heap.size ≤ gb117); have GE117 := am (pY40 : w.heap.size ≤ gb117); replace HB := bS pY48 hb; have NB101_117 := nL pY58 hg; have NB117_101 := nG pY58 hg; replace BK101 := bB pY58 hb; have NB105_117 := am (by rw [hg]; exact Nat.ne_of_lt (blk_lt (g := gb105) (o := .cells #[.string ((rd_T56 l0_1 x33_2).f0), .slice A104_1 ((rd_T56 l0_1 x33_2).f1).length c104_1, .slice A104_2 ((rd_T56 l0_1 x33_2).f2).length c104_2] 56 (0, 0)) (rB BK105.1)) : gb105 ≠ gb117); have NB117_105 := am (by rw [hg]; exact Nat.ne_of_gt (blk_lt (g := gb105) (o := .cells #[.string ((rd_T56 l0_1 x33_2).f0), .slice A104_1 ((rd_T56 l0_1 x33_2).f1).length c104_1, .slice A104_2 ((rd_T56 l0_1 x33_2).f2).length c104_2] 56 (0, 0)) (rB BK105.1)) : gb117 ≠ gb105); replace BK105 := am (blk_below (g := gb105) (o := .cells #[.string ((rd_T56 l0_1 x33_2).f0), .slice A104_1 ((rd_T56 l0_1 x33_2).f1).length c104_1, .slice A104_2 ((rd_T56 l0_1 x33_2).f2).length c104_2] 56 (0, 0)) (rB BK105.1) hb); clear hb hbox hg; have hnb67 := NB117_101.1; have hnc67 := NB101_117.1; have hnb68 := NB117_105.1; have hnc68 := NB105_117.1; obtain ⟨hcz69_0, hcz69_1, hcz69_2, hfz69_0, hfz69_1, hfz69_2⟩ := cz3 BK117; have hnb70 := NB105_101.1; have hnc70 := NB101_105.1; obtain ⟨hcz71_0, hcz71_1, hcz71_2, hfz71_0, hfz71_1, hfz71_2⟩ := cz3 BK105) | ((with_reducible refine gate_callee (f := 78) rfl ?_); refine goesL_ (some 87) rfl rfl Try.func78 (by kernel_rfl) rfl #[.slice A104_1 ((rd_T56 l0_1 x33_2).f1).length c104_1, .slice A116_1 ((rd_T56 y112 x79_4).f1).length c116_1] rfl (pY54) ?_; (with_reducible refine (impl_common.calls _ _ ((rd_T56 l0_1 x33_2).f1) _ _ ((rd_T56 y112 x79_4).f1) false _ ?side1 ?side2 ?side3 ?side4 A57.out).mono ?_); (case side1 => exact Kd.C_below HR104_1.1 (pY44)); (case side2 => exact HC104_1.1); (case side3 => exact Kd.C_below HR116_1.1 (pY44)); (case side4 => exact HC116_1.1); rintro e w72 ⟨rfl, hb⟩; refine ⟨_, rfl, ?_⟩; replace BK101 := am (blk_below (g := gb101) (o := .cells #[.slice A0_0 l0_0.length c0_0, .slice (some ad104) l0_1.length c0_1] 31 (0, 0)) (by (with_reducible repeat (first | refine blk_drewN ?_ _ | refine blk_drew ?_ | refine blk_alloc ?_ _)); refine blk_far ?_ NB101_117.1 _; (with_reducible repeat (first | refine blk_drewN ?_ _ | refine blk_drew ?_ | refine blk_alloc ?_ _)); refine blk_far ?_ NB101_117.1 _; (with_reducible repeat (first | refine blk_drewN ?_ _ | refine blk_drew ?_ | refine blk_alloc ?_ _)); refine blk_far ?_ NB101_117.1 _; (with_reducible repeat (first | refine blk_drewN ?_ _ | refine blk_drew ?_ | refine blk_alloc ?_ _)); exact BK101.1) hb); replace BK105 := am (blk_below (g := gb105) (o := .cells #[.string ((rd_T56 l0_1 x33_2).f0), .slice A104_1 ((rd_T56 l0_1 x33_2).f1).length c104_1, .slice A104_2 ((rd_T56 l0_1 x33_2).f2).length c104_2] 56 (0, 0)) (by (with_reducible repeat (first | refine blk_drewN ?_ _ | refine blk_drew ?_ | refine blk_alloc ?_ _)); refine blk_far ?_ NB105_117.1 _; (with_reducible repeat (first | refine blk_drewN ?_ _ | refine blk_drew ?_ | refine blk_alloc ?_ _)); refine blk_far ?_ NB105_117.1 _; (with_reducible repeat (first | refine blk_drewN ?_ _ | refine blk_drew ?_ | refine blk_alloc ?_ _)); refine blk_far ?_ NB105_117.1 _; (with_reducible repeat (first | refine blk_drewN ?_ _ | refine blk_drew ?_ | refine blk_alloc ?_ _)); exact BK105.1) hb); replace BK117 := am (blk_below (g := gb117) (o := .cells #[.string ((rd_T56 y112 x79_4).f0), .slice A116_1 ((rd_T56 y112 x79_4).f1).length c116_1, .slice A116_2 ((rd_T56 y112 x79_4).f2).length c116_2] 56 (0, 0)) (pY0) hb); replace HB := bS pY44 hb; (try clear hb); (try clear hb2); (try clear hk); (try clear hi)))
                    go_roundg k4
                    case measure => have := HJ1.out; have := HK2.out; have := HJ18.out; have := HK4.out; omega
                    case rel => exact ⟨(wrap64 (x79_4 + 1)), (pY83), H', ⟨by have := HJ1.out; have := HK2.out; have := HJ18.out; have := HK4.out; omega⟩, ⟨rB BK101.1⟩, ⟨rB BK105.1⟩, ⟨pY44⟩⟩
                  ·rw [if_neg c56] at H
                   exact absurd H (by simp)
                 ·rw [if_neg c55] at H
                  exact absurd H (by simp)
                ·rw [if_neg c54] at H
                 have c54b0 : decide (x79_4 < (y112.length : Int)) = false := decide_eq_false c54
                 clear c54
                 have H' := am H
                 clear H
                 go_wp2
                 go_roundg k4
                 case measure => have := HJ1.out; have := HK2.out; have := HJ18.out; have := HK4.out; omega
                 case rel => exact ⟨(wrap64 (x33_2 + 1)), (pY83), H', ⟨by have := HJ1.out; have := HK2.out; have := HJ18.out; have := HK4.out; omega⟩, ⟨rB BK101.1⟩, ⟨pY48⟩⟩
             ·rw [if_neg c50] at H
              exact absurd H (by simp)
            ·rw [if_neg c49] at H
             exact absurd H (by simp)
        ·rw [if_neg c18] at H
         exact absurd H (by simp)
       ·rw [if_neg c17] at H
        exact absurd H (by simp)
      ·rw [if_neg c16] at H
       have c16b0 : decide (x33_2 < (l0_1.length : Int)) = false := decide_eq_false c16
       clear c16
       obtain rfl := Option.some.inj H
       go_wp2
       go_ret
       exact ⟨by first | rfl | (simp [errW_none, errW_some] <;> rfl) | (simp [*, errW_none, errW_some] <;> rfl), pY53⟩
end Go.Proofs.Ytaofjgnhapnndaa.Q
namespace Go.Proofs.Ytaofjgnhapnndaa.Q
open Go.RowKit Go.Proofs.YtaofjgnhapnndaaW.PrintWords Go.Proofs.YtaofjgnhapnndaaW.PrintLast Go.Proofs.YtaofjgnhapnndaaW.PrintMore
set_option linter.unusedVariables false
set_option linter.unusedSimpArgs false
def impl_ShareBook_can.l0 : Nat → Int → List ByteArray → List (S56) → Int → Int → List ByteArray → List (S56) → Option (Bool)
 | 0, _, _, _, _, _, _, _ => none
 | k + 1, x1, x2, x10, x11, x12, x102000, x102001 => if x12 < x11 then (if 0 ≤ x12 then (if x12 < (x10.length : Int) then (if x12 = x1 then (impl_ShareBook_can.l0 k x1 x2 x10 x11 (wrap64 (x12 + 1)) x102000 x102001) else ((slices_Contains_string_string.f k x2 ((rd_T56 x10 x12).f0)).bind fun t104 => (if t104 = true then (impl_ShareBook_can.l0 k x1 x2 x10 x11 (wrap64 (x12 + 1)) x102000 x102001) else (if 0 ≤ x1 then (if x1 < (x102001.length : Int) then ((impl_common.f ((rd_T56 x10 x12).f1) ((rd_T56 x102001 x1).f2)).bind fun t106 => (if t106 = true then (some false) else (impl_ShareBook_can.l0 k x1 x2 x10 x11 (wrap64 (x12 + 1)) x102000 x102001))) else (none)) else (none))))) else (none)) else (none)) else (some true)
def impl_ShareBook_can.f (k : Nat) (l0_0 : List ByteArray) (l0_1 : List (S56)) (a1 : Int) (l2 : List ByteArray) : Option (Bool) := impl_ShareBook_can.l0 k a1 l2 l0_1 (l0_1.length : Int) 0 l0_0 l0_1
def impl_ShareBook_can.T4 : Bool × List (List Nat × List Nat) := (true, [([], []), ([], []), ([0, 1], [0, 1]), ([2], [2]), ([3], [3]), ([3], [3]), ([5, 3], [3, 5]), ([4, 6, 3, 3], [3, 4, 6]), ([7, 3], [3, 7]), ([3, 8], [3, 8]), ([9, 7], [9]), ([10], [10]), ([11, 10], [10, 11]), ([10], [10]), ([13, 10], [10, 13]), ([10], [10]), ([14, 15, 10], [10, 14, 15]), ([16, 10], [10, 16]), ([17, 10], [10, 17]), ([12, 18, 10, 10], [10, 12, 18]), ([10, 19], [10, 19])])
def impl_ShareBook_can.B4 : List Nat := [0, 0, 3, 7, 15, 15, 47, 127, 255, 511, 1023, 2047, 4095, 2047, 10239, 2047, 59391, 124927, 255999, 524287, 1048575]
theorem impl_ShareBook_can.tab4 : rtab .any (opsOf Try.f85 4) = impl_ShareBook_can.T4 := by kernel_rfl
theorem impl_ShareBook_can.bits4 : waitsOk impl_ShareBook_can.T4.2 impl_ShareBook_can.B4 = true := by kernel_rfl
set_option maxHeartbeats 8000000 in
set_option maxRecDepth 100000 in
theorem impl_ShareBook_can.calls (k : Nat) (A0_0 : Option Addr) (c0_0 : Nat) (l0_0 : List ByteArray) (A0_1 : Option Addr) (c0_1 : Nat) (l0_1 : List (S56)) (a1 : Int) (A2 : Option Addr) (c2 : Nat) (l2 : List ByteArray) (r : Bool) (w : World) (hr0_0 : Kd.C Kd.string w A0_0 l0_0.length l0_0) (hc0_0 : l0_0.length ≤ c0_0) (hr0_1 : Kd.C k56 w A0_1 l0_1.length l0_1) (hc0_1 : l0_1.length ≤ c0_1) (hr2 : Kd.C Kd.string w A2 l2.length l2) (hc2 : l2.length ≤ c2) (h : impl_ShareBook_can.f k l0_0 l0_1 a1 l2 = some r) :
  Calls Try.prog 85 #[.agg #[.slice A0_0 l0_0.length c0_0, .slice A0_1 l0_1.length c0_1], .int .i64 a1, .slice A2 l2.length c2] w fun e w' => e = .returned (.bool r) ∧ Below w.heap.size w w' := by
 have hu31 := Try.underlying31
 have hu56 := Try.underlying56
 have HR0_0 := am hr0_0
 have HC0_0 := am hc0_0
 clear hr0_0 hc0_0
 have HR0_1 := am hr0_1
 have HC0_1 := am hc0_1
 clear hr0_1 hc0_1
 have HR2 := am hr2
 have HC2 := am hc2
 clear hr2 hc2
 have HB := am (Below.refl w.heap.size w)
 have H : (impl_ShareBook_can.l0 k a1 l2 l0_1 (l0_1.length : Int) 0 l0_0 l0_1) = some r := h
 clear h
 have H' := am H
 clear H
 go_enter Try.func85, Try.ntmps85
 go_wp2_with (first | (refine bX 3 #[.slice A0_0 l0_0.length c0_0, .slice A0_1 l0_1.length c0_1] 31 ?_; intro gb101 hg w4 hbox hb; have BK101 := am (hbox); have GW101 := am (pY52 : w.heap.size ≤ gb101); have GE101 := am (pY52 : w.heap.size ≤ gb101); replace HB := bS pY55 hb; clear hb hbox hg; obtain ⟨hcz5_0, hcz5_1, hfz5_0, hfz5_1⟩ := cz2 BK101))
 go_loopg [12] k (fun kq v12 w' => ∃ (x12_1 : Int), v12 = .int .i64 x12_1 ∧ Aside0 (impl_ShareBook_can.l0 kq a1 l2 l0_1 (l0_1.length : Int) x12_1 l0_0 l0_1 = some r) ∧ Aside0 (kq ≤ k) ∧ Aside0 (w'.heap[gb101]? = some (.cells #[(.slice A0_0 l0_0.length c0_0), (.slice A0_1 l0_1.length c0_1)] 31 (0, 0))) ∧ Aside0 (Below w.heap.size w w'))
 case atStart => exact ⟨(0), (pY83), H', ⟨Nat.le_refl _⟩, ⟨rB BK101.1⟩, ⟨pY53⟩⟩
 case round =>
  clear H'
  try clear c2
  try clear hcz5_0
  try clear hcz5_1
  try clear hfz5_0
  try clear hfz5_1
  obtain ⟨x12_1, rfl, HA, HK1, BK101, HB⟩ := hrel
  cases gk with
  | zero => exact absurd HA.out (by simp [impl_ShareBook_can.l0])
  | succ k1 =>
   have H := HA.out
   clear HA
   simp only [impl_ShareBook_can.l0] at H
   by_cases c6 : x12_1 < (l0_1.length : Int)
   ·rw [if_pos c6] at H
    have c6b0 : decide (x12_1 < (l0_1.length : Int)) = true := decide_eq_true c6
    clear c6
    by_cases c7 : 0 ≤ x12_1
    ·rw [if_pos c7] at H
     have c7b0 : decide (0 ≤ x12_1) = true := decide_eq_true c7
     clear c7
     by_cases c8 : x12_1 < (l0_1.length : Int)
     ·rw [if_pos c8] at H
      have c8b0 : decide (x12_1 < (l0_1.length : Int)) = true := decide_eq_true c8
      clear c8
      by_cases c9 : x12_1 = a1
      ·rw [if_pos c9] at H
       have c9b0 : (x12_1 == a1) = true := beq_iff_eq.mpr c9
       have c9b1 : (x12_1 != a1) = false := bne_eq_false_iff_eq.mpr c9
       clear c9
       have H' := am H
       clear H
       have p102 : 0 ≤ (x12_1 : Int) := of_decide_eq_true (pY82)
       have q102 : x12_1 < (l0_1.length : Int) := of_decide_eq_true (pY82)
       obtain ⟨ad102, A102_1, c102_1, A102_2, c102_2, e102, hx102_0, hx102_1, hx102_2, hl102_1, hi102_1, hl102_2, hi102_2⟩ := at_T56 HR0_1.1 x12_1 p102 q102
       cases e102
       replace hx102_0 := hX HB hx102_0
       replace hx102_1 := hX HB hx102_1
       replace hx102_2 := hX HB hx102_2
       have HR102_1 := am hi102_1
       have HC102_1 := am hl102_1
       clear hi102_1 hl102_1
       have HR102_2 := am hi102_2
       have HC102_2 := am hl102_2
       clear hi102_2 hl102_2
       replace p102 := eq_true p102
       replace q102 := eq_true q102
       try go_wp2_with (first | (refine bX 8 #[.string (⟨#[]⟩ : ByteArray), .slice none 0 0, .slice none 0 0] 56 ?_; intro gb103 hg w10 hbox hb; have BK103 := am (hbox); have GW103 := am (pY45 : w.heap.size ≤ gb103); have GE103 := am (pY45 : w.heap.size ≤ gb103); replace HB := bS pY53 hb; have NB101_103 := nL pY58 hg; have NB103_101 := nG pY58 hg; replace BK101 := bB pY58 hb; clear hb hbox hg; have hnb11 := NB103_101.1; have hnc11 := NB101_103.1; obtain ⟨hcz12_0, hcz12_1, hcz12_2, hfz12_0, hfz12_1, hfz12_2⟩ := cz3 BK103))
       obtain ⟨w13, eW_⟩ : ∃ w_, w_ = (((w10.setCell ⟨gb103, 0, none⟩ (.string ((rd_T56 l0_1 x12_1).f0))).setCell ⟨gb103, 1, none⟩ (.slice A102_1 ((rd_T56 l0_1 x12_1).f1).length c102_1)).setCell ⟨gb103, 2, none⟩ (.slice A102_2 ((rd_T56 l0_1 x12_1).f2).length c102_2)) := ⟨_, rfl⟩
       rw [← eW_]
       replace BK101 := uF3 eW_ BK101 NB101_103
       replace BK103 := uP3 eW_ BK103
       replace HB := uC3 eW_ HB GE103
       clear eW_
       replace BK101 := am (blk_drew BK101.1)
       replace BK103 := am (blk_drew BK103.1)
       replace HB := am (below_drew1 HB.1)
       refine sT (S := fun w' => True) [] 21 ⟨trivial⟩ (fun hHeld => ?_); refine with_tabW impl_ShareBook_can.tab4 impl_ShareBook_can.bits4 (fun HT_ HW_ => ?_)
       generalize w13.drew = w14 at BK101 BK103 HB hHeld ⊢
       refine pU 0 (some 17) ?_
       refine pU 1 (some 18) ?_
       refine pU 2 (some 19) ?_
       refine pU 3 (some 20) ?_
       refine pV 4 (some 21) ?_
       refine pV 5 (some 22) ?_
       refine pV 6 (some 23) ?_
       refine pV 7 (some 24) ?_
       refine pV 8 (some 25) ?_
       refine pU 9 (some 26) ?_
       refine pU 10 (some 27) ?_
       refine pV 11 (some 28) ?_
       refine pV 12 (some 29) ?_
       refine pV 13 (some 30) ?_
       refine pV 14 (some 31) ?_
       refine pV 15 (some 32) ?_
       refine pV 16 (some 33) ?_
       refine pV 17 (some 34) ?_
       refine pV 18 (some 35) ?_
       refine pV 19 (some 36) ?_
       refine pU 20 (some 37) ?_
       refine done_ (done_of HT_.out (by kernel_rfl)) ?_
       try go_wp2
       go_roundg k1
       case measure => have := HK1.out; omega
       case rel => exact ⟨(wrap64 (x12_1 + 1)), (pY83), H', ⟨by have := HK1.out; omega⟩, ⟨rB BK101.1⟩, ⟨pY49⟩⟩
      ·rw [if_neg c9] at H
       have c9b0 : (x12_1 == a1) = false := beq_eq_false_iff_ne.mpr c9
       have c9b1 : (x12_1 != a1) = true := bne_iff_ne.mpr c9
       obtain ⟨t104, A15, H⟩ := bd H
       by_cases c16 : t104 = true
       ·subst c16
        replace H := iT H
        have H' := am H
        clear H
        have p102 : 0 ≤ (x12_1 : Int) := of_decide_eq_true (pY82)
        have q102 : x12_1 < (l0_1.length : Int) := of_decide_eq_true (pY82)
        obtain ⟨ad102, A102_1, c102_1, A102_2, c102_2, e102, hx102_0, hx102_1, hx102_2, hl102_1, hi102_1, hl102_2, hi102_2⟩ := at_T56 HR0_1.1 x12_1 p102 q102
        cases e102
        replace hx102_0 := hX HB hx102_0
        replace hx102_1 := hX HB hx102_1
        replace hx102_2 := hX HB hx102_2
        have HR102_1 := am hi102_1
        have HC102_1 := am hl102_1
        clear hi102_1 hl102_1
        have HR102_2 := am hi102_2
        have HC102_2 := am hl102_2
        clear hi102_2 hl102_2
        replace p102 := eq_true p102
        replace q102 := eq_true q102
        try go_wp2_with (first | (refine bX 8 #[.string (⟨#[]⟩ : ByteArray), .slice none 0 0, .slice none 0 0] 56 ?_; intro gb103 hg w17 hbox hb; have BK103 := am (hbox); have GW103 := am (pY45 : w.heap.size ≤ gb103); have GE103 := am (pY45 : w.heap.size ≤ gb103); replace HB := bS pY53 hb; have NB101_103 := nL pY58 hg; have NB103_101 := nG pY58 hg; replace BK101 := bB pY58 hb; clear hb hbox hg; have hnb18 := NB103_101.1; have hnc18 := NB101_103.1; obtain ⟨hcz19_0, hcz19_1, hcz19_2, hfz19_0, hfz19_1, hfz19_2⟩ := cz3 BK103))
        obtain ⟨w20, eW_⟩ : ∃ w_, w_ = (((w17.setCell ⟨gb103, 0, none⟩ (.string ((rd_T56 l0_1 x12_1).f0))).setCell ⟨gb103, 1, none⟩ (.slice A102_1 ((rd_T56 l0_1 x12_1).f1).length c102_1)).setCell ⟨gb103, 2, none⟩ (.slice A102_2 ((rd_T56 l0_1 x12_1).f2).length c102_2)) := ⟨_, rfl⟩
        rw [← eW_]
        replace BK101 := uF3 eW_ BK101 NB101_103
        replace BK103 := uP3 eW_ BK103
        replace HB := uC3 eW_ HB GE103
        clear eW_
        replace BK101 := am (blk_drew BK101.1)
        replace BK103 := am (blk_drew BK103.1)
        replace HB := am (below_drew1 HB.1)
        refine sT [] 21 (uA3 BK103) (fun hHeld => ?_); refine with_tabW impl_ShareBook_can.tab4 impl_ShareBook_can.bits4 (fun HT_ HW_ => ?_)
        generalize w20.drew = w21 at BK101 BK103 HB hHeld ⊢
        refine pU 0 (some 17) ?_
        refine pU 1 (some 18) ?_
        refine pU 2 (some 19) ?_
        refine pU 3 (some 20) ?_
        refine pU 4 (some 21) ?_
        refine pU 5 (some 22) ?_
        refine tK3 6 (some 23) ?_
        refine oN 7 (some 24) fun K hK => ?_
        refine goes_ Try.func81 (by kernel_rfl) rfl #[.slice A2 l2.length c2, .string ((rd_T56 l0_1 x12_1).f0)] (by rfl) rfl rfl (pY54) ?_
        with_reducible refine (slices_Contains_string_string.calls k1 _ _ l2 ((rd_T56 l0_1 x12_1).f0) true _ ?side1 ?side2 A15.out).mono ?_
        (case side1 => exact pC (Kd.C_below HR2.1 HB.1))
        (case side2 => exact HC2.1)
        rintro e w' ⟨rfl, ⟨nd, rfl⟩⟩
        refine ⟨_, rfl, ?_⟩
        refine hK.out _ _ (uA3 BK103).1 (fun hHeld => ?_)
        clear hK K
        refine nM ?_
        refine pU 8 (some 25) ?_
        refine pU 9 (some 26) ?_
        refine pU 10 (some 27) ?_
        refine pV 11 (some 28) ?_
        refine pV 12 (some 29) ?_
        refine pV 13 (some 30) ?_
        refine pV 14 (some 31) ?_
        refine pV 15 (some 32) ?_
        refine pV 16 (some 33) ?_
        refine pV 17 (some 34) ?_
        refine pV 18 (some 35) ?_
        refine pV 19 (some 36) ?_
        refine pU 20 (some 37) ?_
        refine done_ (done_of HT_.out (by kernel_rfl)) ?_
        try go_wp2
        go_roundg k1
        case measure => have := HK1.out; omega
        case rel => exact ⟨(wrap64 (x12_1 + 1)), (pY83), H', ⟨by have := HK1.out; omega⟩, ⟨rB BK101.1⟩, ⟨pY49⟩⟩
       ·replace c16 := Bool.eq_false_iff.mpr c16
        subst c16
        replace H := iF H
        by_cases c22 : 0 ≤ a1
        ·rw [if_pos c22] at H
         have c22b0 : decide (0 ≤ a1) = true := decide_eq_true c22
         clear c22
         by_cases c23 : a1 < (l0_1.length : Int)
         ·rw [if_pos c23] at H
          have c23b0 : decide (a1 < (l0_1.length : Int)) = true := decide_eq_true c23
          clear c23
          obtain ⟨t106, A24, H⟩ := bd H
          by_cases c25 : t106 = true
          ·subst c25
           replace H := iT H
           obtain rfl := Option.some.inj H
           have p102 : 0 ≤ (x12_1 : Int) := of_decide_eq_true (pY82)
           have q102 : x12_1 < (l0_1.length : Int) := of_decide_eq_true (pY82)
           obtain ⟨ad102, A102_1, c102_1, A102_2, c102_2, e102, hx102_0, hx102_1, hx102_2, hl102_1, hi102_1, hl102_2, hi102_2⟩ := at_T56 HR0_1.1 x12_1 p102 q102
           cases e102
           replace hx102_0 := hX HB hx102_0
           replace hx102_1 := hX HB hx102_1
           replace hx102_2 := hX HB hx102_2
           have HR102_1 := am hi102_1
           have HC102_1 := am hl102_1
           clear hi102_1 hl102_1
           have HR102_2 := am hi102_2
           have HC102_2 := am hl102_2
           clear hi102_2 hl102_2
           replace p102 := eq_true p102
           replace q102 := eq_true q102
           try go_wp2_with (first | (refine bX 8 #[.string (⟨#[]⟩ : ByteArray), .slice none 0 0, .slice none 0 0] 56 ?_; intro gb103 hg w26 hbox hb; have BK103 := am (hbox); have GW103 := am (pY45 : w.heap.size ≤ gb103); have GE103 := am (pY45 : w.heap.size ≤ gb103); replace HB := bS pY53 hb; have NB101_103 := nL pY58 hg; have NB103_101 := nG pY58 hg; replace BK101 := bB pY58 hb; clear hb hbox hg; have hnb27 := NB103_101.1; have hnc27 := NB101_103.1; obtain ⟨hcz28_0, hcz28_1, hcz28_2, hfz28_0, hfz28_1, hfz28_2⟩ := cz3 BK103))
           obtain ⟨w29, eW_⟩ : ∃ w_, w_ = (((w26.setCell ⟨gb103, 0, none⟩ (.string ((rd_T56 l0_1 x12_1).f0))).setCell ⟨gb103, 1, none⟩ (.slice A102_1 ((rd_T56 l0_1 x12_1).f1).length c102_1)).setCell ⟨gb103, 2, none⟩ (.slice A102_2 ((rd_T56 l0_1 x12_1).f2).length c102_2)) := ⟨_, rfl⟩
           rw [← eW_]
           replace BK101 := uF3 eW_ BK101 NB101_103
           replace BK103 := uP3 eW_ BK103
           replace HB := uC3 eW_ HB GE103
           clear eW_
           replace BK101 := am (blk_drew BK101.1)
           replace BK103 := am (blk_drew BK103.1)
           replace HB := am (below_drew1 HB.1)
           have p105 : 0 ≤ (a1 : Int) := of_decide_eq_true (pY82)
           have q105 : a1 < (l0_1.length : Int) := of_decide_eq_true (pY82)
           obtain ⟨ad105, A105_1, c105_1, A105_2, c105_2, e105, hx105_0, hx105_1, hx105_2, hl105_1, hi105_1, hl105_2, hi105_2⟩ := at_T56 HR0_1.1 a1 p105 q105
           have hw105_2 := hx105_2
           have hw105_1 := hx105_1
           have hw105_0 := hx105_0
           obtain rfl : ad102 = ad105 := (by injection e105)
           replace hx105_0 := hX HB hx105_0
           replace hx105_1 := hX HB hx105_1
           replace hx105_2 := hX HB hx105_2
           have HR105_1 := am hi105_1
           have HC105_1 := am hl105_1
           clear hi105_1 hl105_1
           have HR105_2 := am hi105_2
           have HC105_2 := am hl105_2
           clear hi105_2 hl105_2
           replace p105 := eq_true p105
           replace q105 := eq_true q105
           refine sT [] 21 (uB3 BK103 (uB2 BK101 (uBx HB hw105_0 (uBx HB hw105_1 (uAx HB hw105_2))))) (fun hHeld => ?_); refine with_tabW impl_ShareBook_can.tab4 impl_ShareBook_can.bits4 (fun HT_ HW_ => ?_)
           generalize w29.drew = w30 at BK101 BK103 HB HR105_1 HR105_2 hx105_0 hx105_1 hx105_2 hHeld ⊢
           refine pU 0 (some 17) ?_
           refine pU 1 (some 18) ?_
           refine pU 2 (some 19) ?_
           refine pU 3 (some 20) ?_
           refine pU 4 (some 21) ?_
           refine pU 5 (some 22) ?_
           refine tK8 6 (some 23) ?_
           refine oN 7 (some 24) fun K hK => ?_
           refine goes_ Try.func81 (by kernel_rfl) rfl #[.slice A2 l2.length c2, .string ((rd_T56 l0_1 x12_1).f0)] (by rfl) rfl rfl (pY54) ?_
           with_reducible refine (slices_Contains_string_string.calls k1 _ _ l2 ((rd_T56 l0_1 x12_1).f0) false _ ?side1 ?side2 A15.out).mono ?_
           (case side1 => exact pC (Kd.C_below HR2.1 HB.1))
           (case side2 => exact HC2.1)
           rintro e w' ⟨rfl, ⟨nd, rfl⟩⟩
           refine ⟨_, rfl, ?_⟩
           refine hK.out _ _ (uB3 BK103 (uB2 BK101 (uBx HB hw105_0 (uBx HB hw105_1 (uAx HB hw105_2))))).1 (fun hHeld => ?_)
           clear hK K
           refine nM ?_
           refine pU 8 (some 25) ?_
           refine pU 9 (some 26) ?_
           refine pU 10 (some 27) ?_
           refine pU 11 (some 28) ?_
           refine pU 13 (some 30) ?_
           refine pU 15 (some 32) ?_
           refine tK8 12 (some 29) ?_
           refine tK8 14 (some 31) ?_
           refine pU 16 (some 33) ?_
           refine pU 17 (some 34) ?_
           refine tK8 18 (some 35) ?_
           refine oN 19 (some 36) fun K hK => ?_
           refine goes_ Try.func78 (by kernel_rfl) rfl #[.slice A102_1 ((rd_T56 l0_1 x12_1).f1).length c102_1, .slice A105_2 ((rd_T56 l0_1 a1).f2).length c105_2] (by rfl) rfl rfl (pY54) ?_
           with_reducible refine (impl_common.calls _ _ ((rd_T56 l0_1 x12_1).f1) _ _ ((rd_T56 l0_1 a1).f2) true _ ?side1 ?side2 ?side3 ?side4 A24.out).mono ?_
           (case side1 => exact pC (Kd.C_below HR102_1.1 (pY49)))
           (case side2 => exact HC102_1.1)
           (case side3 => exact pC (Kd.C_below HR105_2.1 (pY49)))
           (case side4 => exact HC105_2.1)
           rintro e w31 ⟨rfl, hb⟩
           refine ⟨_, rfl, ?_⟩
           replace BK101 := bB pY58 hb
           replace BK103 := am (blk_below (g := gb103) (o := .cells #[.string ((rd_T56 l0_1 x12_1).f0), .slice A102_1 ((rd_T56 l0_1 x12_1).f1).length c102_1, .slice A102_2 ((rd_T56 l0_1 x12_1).f2).length c102_2] 56 (0, 0)) (rB BK103.1) hb)
           replace HB := bS pY49 hb
           (try clear hb)
           (try clear hb2)
           (try clear hk)
           (try clear hi)
           refine hK.out _ _ (uB3 BK103 (uB2 BK101 (uBx HB hw105_0 (uBx HB hw105_1 (uAx HB hw105_2))))).1 (fun hHeld => ?_)
           clear hK K
           refine nM ?_
           refine pU 20 (some 37) ?_
           refine done_ (done_of HT_.out (by kernel_rfl)) ?_
           try go_wp2
           go_ret
           exact ⟨by first | rfl | (simp [errW_none, errW_some] <;> rfl) | (simp [*, errW_none, errW_some] <;> rfl), pY49⟩
          ·replace c25 := Bool.eq_false_iff.mpr c25
           subst c25
           replace H := iF H
           have H' := am H
           clear H
           have p102 : 0 ≤ (x12_1 : Int) := of_decide_eq_true (pY82)
           have q102 : x12_1 < (l0_1.length : Int) := of_decide_eq_true (pY82)
           obtain ⟨ad102, A102_1, c102_1, A102_2, c102_2, e102, hx102_0, hx102_1, hx102_2, hl102_1, hi102_1, hl102_2, hi102_2⟩ := at_T56 HR0_1.1 x12_1 p102 q102
           cases e102
           replace hx102_0 := hX HB hx102_0
           replace hx102_1 := hX HB hx102_1
           replace hx102_2 := hX HB hx102_2
           have HR102_1 := am hi102_1
           have HC102_1 := am hl102_1
           clear hi102_1 hl102_1
           have HR102_2 := am hi102_2
           have HC102_2 := am hl102_2
           clear hi102_2 hl102_2
           replace p102 := eq_true p102
           replace q102 := eq_true q102
           try go_wp2_with (first | (refine bX 8 #[.string (⟨#[]⟩ : ByteArray), .slice none 0 0, .slice none 0 0] 56 ?_; intro gb103 hg w32 hbox hb; have BK103 := am (hbox); have GW103 := am (pY45 : w.heap.size ≤ gb103); have GE103 := am (pY45 : w.heap.size ≤ gb103); replace HB := bS pY53 hb; have NB101_103 := nL pY58 hg; have NB103_101 := nG pY58 hg; replace BK101 := bB pY58 hb; clear hb hbox hg; have hnb33 := NB103_101.1; have hnc33 := NB101_103.1; obtain ⟨hcz34_0, hcz34_1, hcz34_2, hfz34_0, hfz34_1, hfz34_2⟩ := cz3 BK103))
           obtain ⟨w35, eW_⟩ : ∃ w_, w_ = (((w32.setCell ⟨gb103, 0, none⟩ (.string ((rd_T56 l0_1 x12_1).f0))).setCell ⟨gb103, 1, none⟩ (.slice A102_1 ((rd_T56 l0_1 x12_1).f1).length c102_1)).setCell ⟨gb103, 2, none⟩ (.slice A102_2 ((rd_T56 l0_1 x12_1).f2).length c102_2)) := ⟨_, rfl⟩
           rw [← eW_]
           replace BK101 := uF3 eW_ BK101 NB101_103
           replace BK103 := uP3 eW_ BK103
           replace HB := uC3 eW_ HB GE103
           clear eW_
           replace BK101 := am (blk_drew BK101.1)
           replace BK103 := am (blk_drew BK103.1)
           replace HB := am (below_drew1 HB.1)
           have p105 : 0 ≤ (a1 : Int) := of_decide_eq_true (pY82)
           have q105 : a1 < (l0_1.length : Int) := of_decide_eq_true (pY82)
           obtain ⟨ad105, A105_1, c105_1, A105_2, c105_2, e105, hx105_0, hx105_1, hx105_2, hl105_1, hi105_1, hl105_2, hi105_2⟩ := at_T56 HR0_1.1 a1 p105 q105
           have hw105_2 := hx105_2
           have hw105_1 := hx105_1
           have hw105_0 := hx105_0
           obtain rfl : ad102 = ad105 := (by injection e105)
           replace hx105_0 := hX HB hx105_0
           replace hx105_1 := hX HB hx105_1
           replace hx105_2 := hX HB hx105_2
           have HR105_1 := am hi105_1
           have HC105_1 := am hl105_1
           clear hi105_1 hl105_1
           have HR105_2 := am hi105_2
           have HC105_2 := am hl105_2
           clear hi105_2 hl105_2
           replace p105 := eq_true p105
           replace q105 := eq_true q105
           refine sT [] 21 (uB3 BK103 (uB2 BK101 (uBx HB hw105_0 (uBx HB hw105_1 (uAx HB hw105_2))))) (fun hHeld => ?_); refine with_tabW impl_ShareBook_can.tab4 impl_ShareBook_can.bits4 (fun HT_ HW_ => ?_)
           generalize w35.drew = w36 at BK101 BK103 HB HR105_1 HR105_2 hx105_0 hx105_1 hx105_2 hHeld ⊢
           refine pU 0 (some 17) ?_
           refine pU 1 (some 18) ?_
           refine pU 2 (some 19) ?_
           refine pU 3 (some 20) ?_
           refine pU 4 (some 21) ?_
           refine pU 5 (some 22) ?_
           refine tK8 6 (some 23) ?_
           refine oN 7 (some 24) fun K hK => ?_
           refine goes_ Try.func81 (by kernel_rfl) rfl #[.slice A2 l2.length c2, .string ((rd_T56 l0_1 x12_1).f0)] (by rfl) rfl rfl (pY54) ?_
           with_reducible refine (slices_Contains_string_string.calls k1 _ _ l2 ((rd_T56 l0_1 x12_1).f0) false _ ?side1 ?side2 A15.out).mono ?_
           (case side1 => exact pC (Kd.C_below HR2.1 HB.1))
           (case side2 => exact HC2.1)
           rintro e w' ⟨rfl, ⟨nd, rfl⟩⟩
           refine ⟨_, rfl, ?_⟩
           refine hK.out _ _ (uB3 BK103 (uB2 BK101 (uBx HB hw105_0 (uBx HB hw105_1 (uAx HB hw105_2))))).1 (fun hHeld => ?_)
           clear hK K
           refine nM ?_
           refine pU 8 (some 25) ?_
           refine pU 9 (some 26) ?_
           refine pU 10 (some 27) ?_
           refine pU 11 (some 28) ?_
           refine pU 13 (some 30) ?_
           refine pU 15 (some 32) ?_
           refine tK8 12 (some 29) ?_
           refine tK8 14 (some 31) ?_
           refine pU 16 (some 33) ?_
           refine pU 17 (some 34) ?_
           refine tK8 18 (some 35) ?_
           refine oN 19 (some 36) fun K hK => ?_
           refine goes_ Try.func78 (by kernel_rfl) rfl #[.slice A102_1 ((rd_T56 l0_1 x12_1).f1).length c102_1, .slice A105_2 ((rd_T56 l0_1 a1).f2).length c105_2] (by rfl) rfl rfl (pY54) ?_
           with_reducible refine (impl_common.calls _ _ ((rd_T56 l0_1 x12_1).f1) _ _ ((rd_T56 l0_1 a1).f2) false _ ?side1 ?side2 ?side3 ?side4 A24.out).mono ?_
           (case side1 => exact pC (Kd.C_below HR102_1.1 (pY49)))
           (case side2 => exact HC102_1.1)
           (case side3 => exact pC (Kd.C_below HR105_2.1 (pY49)))
           (case side4 => exact HC105_2.1)
           rintro e w37 ⟨rfl, hb⟩
           refine ⟨_, rfl, ?_⟩
           replace BK101 := bB pY58 hb
           replace BK103 := am (blk_below (g := gb103) (o := .cells #[.string ((rd_T56 l0_1 x12_1).f0), .slice A102_1 ((rd_T56 l0_1 x12_1).f1).length c102_1, .slice A102_2 ((rd_T56 l0_1 x12_1).f2).length c102_2] 56 (0, 0)) (rB BK103.1) hb)
           replace HB := bS pY49 hb
           (try clear hb)
           (try clear hb2)
           (try clear hk)
           (try clear hi)
           refine hK.out _ _ (uB3 BK103 (uB2 BK101 (uBx HB hw105_0 (uBx HB hw105_1 (uAx HB hw105_2))))).1 (fun hHeld => ?_)
           clear hK K
           refine nM ?_
           refine pU 20 (some 37) ?_
           refine done_ (done_of HT_.out (by kernel_rfl)) ?_
           try go_wp2
           go_roundg k1
           case measure => have := HK1.out; omega
           case rel => exact ⟨(wrap64 (x12_1 + 1)), (pY83), H', ⟨by have := HK1.out; omega⟩, ⟨rB BK101.1⟩, ⟨pY49⟩⟩
         ·rw [if_neg c23] at H
          exact absurd H (by simp)
        ·rw [if_neg c22] at H
         exact absurd H (by simp)
     ·rw [if_neg c8] at H
      exact absurd H (by simp)
    ·rw [if_neg c7] at H
     exact absurd H (by simp)
   ·rw [if_neg c6] at H
    have c6b0 : decide (x12_1 < (l0_1.length : Int)) = false := decide_eq_false c6
    clear c6
    obtain rfl := Option.some.inj H
    go_wp2
    go_ret
    exact ⟨by first | rfl | (simp [errW_none, errW_some] <;> rfl) | (simp [*, errW_none, errW_some] <;> rfl), pY53⟩
end Go.Proofs.Ytaofjgnhapnndaa.Q
namespace Go.Proofs.Ytaofjgnhapnndaa.Q
open Go.RowKit Go.Proofs.YtaofjgnhapnndaaW.PrintWords Go.Proofs.YtaofjgnhapnndaaW.PrintLast Go.Proofs.YtaofjgnhapnndaaW.PrintMore
set_option linter.unusedVariables false
set_option linter.unusedSimpArgs false
mutual
def impl_ShareOrder.l0 : Nat → List ByteArray → List ByteArray → List (S56) → Option (List ByteArray × Bool)
 | 0, _, _, _ => none
 | k + 1, x4, x102000, x102001 => if (x4.length : Int) < (x102001.length : Int) then (impl_ShareOrder.l1 k x4 (x4.length : Int) x102001 (x102001.length : Int) 0 x102000 x102001) else (some (x4, true))
def impl_ShareOrder.l1 : Nat → List ByteArray → Int → List (S56) → Int → Int → List ByteArray → List (S56) → Option (List ByteArray × Bool)
 | 0, _, _, _, _, _, _, _ => none
 | k + 1, x4, x5, x21, x22, x23, x102000, x102001 => if x23 < x22 then (if 0 ≤ x23 then (if x23 < (x21.length : Int) then ((slices_Contains_string_string.f k x4 ((rd_T56 x21 x23).f0)).bind fun t108 => (if t108 = true then (impl_ShareOrder.l1 k x4 x5 x21 x22 (wrap64 (x23 + 1)) x102000 x102001) else ((impl_ShareBook_can.f k x102000 x102001 x23 x4).bind fun t109 => (if t109 = true then (if x4.length < 8796093022208 then ((some (x4 ++ [(rd_T56 x21 x23).f0] : List ByteArray)).bind fun y110 => (if (y110.length : Int) = x5 then (some (([] : List ByteArray), false)) else (impl_ShareOrder.l0 k y110 x102000 x102001))) else (none)) else (impl_ShareOrder.l1 k x4 x5 x21 x22 (wrap64 (x23 + 1)) x102000 x102001))))) else (none)) else (none)) else (if (x4.length : Int) = x5 then (some (([] : List ByteArray), false)) else (impl_ShareOrder.l0 k x4 x102000 x102001))
end
def impl_ShareOrder.f (k : Nat) (l0_0 : List ByteArray) (l0_1 : List (S56)) : Option (List ByteArray × Bool) := (impl_ShareBookOk.f k l0_0 l0_1).bind fun t102 => (if t102 = true then (impl_ShareOrder.l0 k (([] : List ByteArray)) l0_0 l0_1) else (some (([] : List ByteArray), false)))
set_option maxHeartbeats 8000000 in
set_option maxRecDepth 100000 in
theorem impl_ShareOrder.calls (k : Nat) (A0_0 : Option Addr) (c0_0 : Nat) (l0_0 : List ByteArray) (A0_1 : Option Addr) (c0_1 : Nat) (l0_1 : List (S56)) (r1 : List ByteArray) (r2 : Bool) (w : World) (hr0_0 : Kd.C Kd.string w A0_0 l0_0.length l0_0) (hc0_0 : l0_0.length ≤ c0_0) (hr0_1 : Kd.C k56 w A0_1 l0_1.length l0_1) (hc0_1 : l0_1.length ≤ c0_1) (h : impl_ShareOrder.f k l0_0 l0_1 = some (r1, r2)) :
  Calls Try.prog 45 #[.agg #[.slice A0_0 l0_0.length c0_0, .slice A0_1 l0_1.length c0_1]] w fun e w' => ∃ v0_ : Value, e = .returned (.tuple #[v0_, .bool r2]) ∧ Kd.R Kd.string 9 w' w.heap.size (fun _ => True) v0_ r1 ∧ Below w.heap.size w w' := by
 have hu31 := Try.underlying31
 have hu56 := Try.underlying56
 have HR0_0 := am hr0_0
 have HC0_0 := am hc0_0
 clear hr0_0 hc0_0
 have HR0_1 := am hr0_1
 have HC0_1 := am hc0_1
 clear hr0_1 hc0_1
 have HB := am (Below.refl w.heap.size w)
 have H : ((impl_ShareBookOk.f k l0_0 l0_1).bind fun t102 => (if t102 = true then (impl_ShareOrder.l0 k (([] : List ByteArray)) l0_0 l0_1) else (some (([] : List ByteArray), false)))) = some (r1, r2) := h
 clear h
 obtain ⟨t102, A2, H⟩ := bd H
 by_cases c3 : t102 = true
 ·subst c3
  replace H := iT H
  first | (replace H := bZ (([] : List ByteArray)) H; obtain ⟨y103, Ny103, H⟩ := H) | (obtain ⟨y103, Ny103⟩ := yv (([] : List ByteArray)); rw [← Ny103.1] at H)
  have H' := am H
  clear H
  go_enter Try.func45, Try.ntmps45
  go_wp2_with (first | (refine bX 1 #[.slice A0_0 l0_0.length c0_0, .slice A0_1 l0_1.length c0_1] 31 ?_; intro gb101 hg w4 hbox hb; have BK101 := am (hbox); have GW101 := am (pY52 : w.heap.size ≤ gb101); have GE101 := am (pY52 : w.heap.size ≤ gb101); replace HB := bS pY55 hb; clear hb hbox hg; obtain ⟨hcz5_0, hcz5_1, hfz5_0, hfz5_1⟩ := cz2 BK101) | ((with_reducible refine gate_callee (f := 24) rfl ?_); refine goesL_ (some 9) rfl rfl Try.func24 (by kernel_rfl) rfl #[.agg #[.slice A0_0 l0_0.length c0_0, .slice A0_1 l0_1.length c0_1]] rfl (pY54) ?_; (with_reducible refine (impl_ShareBookOk.calls k _ _ l0_0 _ _ l0_1 true _ ?side1 ?side2 ?side3 ?side4 A2.out).mono ?_); (case side1 => exact pC (Kd.C_below HR0_0.1 HB.1)); (case side2 => exact HC0_0.1); (case side3 => exact pC (Kd.C_below HR0_1.1 HB.1)); (case side4 => exact HC0_1.1); rintro e w6 ⟨rfl, hb⟩; refine ⟨_, rfl, ?_⟩; replace BK101 := bB pY58 hb; replace HB := bS pY53 hb; (try clear hb); (try clear hb2); (try clear hk); (try clear hi)) | ((with_reducible refine gate_dst (N := 11) rfl ?_); refine Kd.R_lit Kd.string _ 9 ?hg (N := 11) ?hd (xs := ([] : List ByteArray)) (inner := []) (ok := fun _ => True) (okp := fun _ => True) ?hr ?hp (fun _ hk => hk) trivial (Below.refl _ _) (Nat.le_refl _) (by simp) ?_; (case hd => rfl); (case hg => rfl); (case hr => first | (go_simp; done) | (go_simp; rfl)); (case hp => exact (Reps.none _ _)); intro v104 w7 ho8 hb hg_ hnew_; clear hg_ hnew_; (first | rw [← Ny103.out] at ho8 | (simp only [Int.reduceToNat] at ho8; rw [← Ny103.out] at ho8)); have HO105 := am (Kd.R_lower ho8 (below_size (pY53))); replace BK101 := bB pY58 hb; replace HB := bS pY53 hb; clear hb ho8))
  go_loopg [4] k (fun kq v4 w' => ∃ (x4_1 : List ByteArray), Aside0 (impl_ShareOrder.l0 kq x4_1 l0_0 l0_1 = some (r1, r2)) ∧ Aside0 (kq ≤ k) ∧ Aside0 (Kd.R Kd.string 9 w' w.heap.size (fun _ => True) v4 x4_1) ∧ Aside0 (w'.heap[gb101]? = some (.cells #[(.slice A0_0 l0_0.length c0_0), (.slice A0_1 l0_1.length c0_1)] 31 (0, 0))) ∧ Aside0 (Below w.heap.size w w'))
  case atStart => exact ⟨(y103), H', ⟨Nat.le_refl _⟩, ⟨rR HO105.1⟩, ⟨rB BK101.1⟩, ⟨pY53⟩⟩
  case round =>
   clear H'
   try clear c3
   try clear hcz5_0
   try clear hcz5_1
   try clear hfz5_0
   try clear hfz5_1
   obtain ⟨x4_1, HA, HK1, HO_4, BK101, HB⟩ := hrel
   cases gk with
   | zero => exact absurd HA.out (by simp [impl_ShareOrder.l0])
   | succ k1 =>
    have H := HA.out
    clear HA
    simp only [impl_ShareOrder.l0] at H
    by_cases c9 : (x4_1.length : Int) < (l0_1.length : Int)
    ·rw [if_pos c9] at H
     have c9b0 : decide ((x4_1.length : Int) < (l0_1.length : Int)) = true := decide_eq_true c9
     have c9b1 : decide (x4_1.length < l0_1.length) = true := decide_eq_true (Int.ofNat_lt.mp c9)
     clear c9
     have H' := am H
     clear H
     obtain ⟨Ao10, co10, eo10⟩ := Kd.R_slice HO_4.1
     subst eo10
     obtain ⟨hcz11_0, hcz11_1, hfz11_0, hfz11_1⟩ := cz2 BK101
     go_wp2
     go_loopg [4, 23] k1 (fun kq v4 v23 w' => ∃ (x4_2 : List ByteArray) (x23_2 : Int), v23 = .int .i64 x23_2 ∧ Aside0 (impl_ShareOrder.l1 kq x4_2 (x4_1.length : Int) l0_1 (l0_1.length : Int) x23_2 l0_0 l0_1 = some (r1, r2)) ∧ Aside0 (kq ≤ k1) ∧ Aside0 (Kd.R Kd.string 9 w' w.heap.size (fun _ => True) v4 x4_2) ∧ Aside0 (w'.heap[gb101]? = some (.cells #[(.slice A0_0 l0_0.length c0_0), (.slice A0_1 l0_1.length c0_1)] 31 (0, 0))) ∧ Aside0 (Below w.heap.size w w'))
     case atStart => exact ⟨(x4_1), (0), (pY83), H', ⟨Nat.le_refl _⟩, ⟨rR HO_4.1⟩, ⟨rB BK101.1⟩, ⟨pY53⟩⟩
     case round =>
      clear H'
      try clear c3
      try clear c9
      try clear c9b0
      try clear c9b1
      try clear hcz11_0
      try clear hcz11_1
      try clear hcz5_0
      try clear hcz5_1
      try clear hfz11_0
      try clear hfz11_1
      try clear hfz5_0
      try clear hfz5_1
      obtain ⟨x4_2, x23_2, rfl, HA, HK2, HO_4, BK101, HB⟩ := hrel
      cases gk with
      | zero => exact absurd HA.out (by simp [impl_ShareOrder.l1])
      | succ k2 =>
       have H := HA.out
       clear HA
       simp only [impl_ShareOrder.l1] at H
       by_cases c12 : x23_2 < (l0_1.length : Int)
       ·rw [if_pos c12] at H
        have c12b0 : decide (x23_2 < (l0_1.length : Int)) = true := decide_eq_true c12
        clear c12
        by_cases c13 : 0 ≤ x23_2
        ·rw [if_pos c13] at H
         have c13b0 : decide (0 ≤ x23_2) = true := decide_eq_true c13
         clear c13
         by_cases c14 : x23_2 < (l0_1.length : Int)
         ·rw [if_pos c14] at H
          have c14b0 : decide (x23_2 < (l0_1.length : Int)) = true := decide_eq_true c14
          clear c14
          obtain ⟨t108, A15, H⟩ := bd H
          by_cases c16 : t108 = true
          ·subst c16
           replace H := iT H
           have H' := am H
           clear H
           have p106 : 0 ≤ (x23_2 : Int) := of_decide_eq_true (pY82)
           have q106 : x23_2 < (l0_1.length : Int) := of_decide_eq_true (pY82)
           obtain ⟨ad106, A106_1, c106_1, A106_2, c106_2, e106, hx106_0, hx106_1, hx106_2, hl106_1, hi106_1, hl106_2, hi106_2⟩ := at_T56 HR0_1.1 x23_2 p106 q106
           cases e106
           replace hx106_0 := hX HB hx106_0
           replace hx106_1 := hX HB hx106_1
           replace hx106_2 := hX HB hx106_2
           have HR106_1 := am hi106_1
           have HC106_1 := am hl106_1
           clear hi106_1 hl106_1
           have HR106_2 := am hi106_2
           have HC106_2 := am hl106_2
           clear hi106_2 hl106_2
           replace p106 := eq_true p106
           replace q106 := eq_true q106
           go_wp2_with (first | (refine bX 7 #[.string (⟨#[]⟩ : ByteArray), .slice none 0 0, .slice none 0 0] 56 ?_; intro gb107 hg w17 hbox hb; replace HO_4 := am (Kd.R_below (pY78) hb); have BK107 := am (hbox); have GW107 := am (pY45 : w.heap.size ≤ gb107); have GE107 := am (pY45 : w.heap.size ≤ gb107); replace HB := bS pY53 hb; have NB101_107 := nL pY58 hg; have NB107_101 := nG pY58 hg; replace BK101 := bB pY58 hb; clear hb hbox hg; have hnb18 := NB107_101.1; have hnc18 := NB101_107.1; obtain ⟨hcz19_0, hcz19_1, hcz19_2, hfz19_0, hfz19_1, hfz19_2⟩ := cz3 BK107; obtain ⟨Ao20, co20, eo20⟩ := Kd.R_slice HO_4.1; subst eo20) | ((with_reducible refine gate_callee (f := 81) rfl ?_); refine goesL_ (some 31) rfl rfl Try.func81 (by kernel_rfl) rfl #[.slice Ao20 x4_2.length co20, .string ((rd_T56 l0_1 x23_2).f0)] rfl (pY54) ?_; (with_reducible refine (slices_Contains_string_string.calls k2 _ _ x4_2 ((rd_T56 l0_1 x23_2).f0) true _ ?side1 ?side2 A15.out).mono ?_); (case side1 => refine (Kd.R_reads' (e := 9) (base := w.heap.size) (ok := fun k_ => True) (n := x4_2.length) (c := co20) ?_).2.2; exact (pY7)); (case side2 => exact (Kd.R_reads' HO_4.1).2.1); rintro e w' ⟨rfl, ⟨nd, rfl⟩⟩; refine ⟨_, rfl, ?_⟩))
           go_roundg k2
           case measure => have := HK1.out; have := HK2.out; omega
           case rel => exact ⟨(x4_2), (wrap64 (x23_2 + 1)), (pY83), H', ⟨by have := HK1.out; have := HK2.out; omega⟩, ⟨by refine rR ?_; exact Kd.R_mono (Kd.R_far (p := ⟨gb107, 2, none⟩) (Kd.R_far (p := ⟨gb107, 1, none⟩) (Kd.R_far (p := ⟨gb107, 0, none⟩) (Kd.R_types HO_4.1 BK107.1 (by decide)) (fun _ hk => hk.2) (.string ((rd_T56 l0_1 x23_2).f0))) (fun _ hk => hk.2) (.slice A106_1 ((rd_T56 l0_1 x23_2).f1).length c106_1)) (fun _ hk => hk.2) (.slice A106_2 ((rd_T56 l0_1 x23_2).f2).length c106_2)) (fun _ hk => trivial)⟩, ⟨by (with_reducible repeat (first | refine blk_drewN ?_ _ | refine blk_drew ?_ | refine blk_alloc ?_ _)); refine blk_far ?_ NB101_107.1 _; (with_reducible repeat (first | refine blk_drewN ?_ _ | refine blk_drew ?_ | refine blk_alloc ?_ _)); refine blk_far ?_ NB101_107.1 _; (with_reducible repeat (first | refine blk_drewN ?_ _ | refine blk_drew ?_ | refine blk_alloc ?_ _)); refine blk_far ?_ NB101_107.1 _; (with_reducible repeat (first | refine blk_drewN ?_ _ | refine blk_drew ?_ | refine blk_alloc ?_ _)); exact BK101.1⟩, ⟨pY50⟩⟩
          ·replace c16 := Bool.eq_false_iff.mpr c16
           subst c16
           replace H := iF H
           obtain ⟨t109, A21, H⟩ := bd H
           by_cases c22 : t109 = true
           ·subst c22
            replace H := iT H
            by_cases c23 : x4_2.length < 8796093022208
            ·rw [if_pos c23] at H
             have LMc23 := am c23
             clear c23
             obtain ⟨y110, Ny110, H⟩ := bY H
             by_cases c24 : (y110.length : Int) = (x4_1.length : Int)
             ·rw [if_pos c24] at H
              have c24b0 : ((y110.length : Int) == (x4_1.length : Int)) = true := beq_iff_eq.mpr c24
              have c24b1 : ((y110.length : Int) != (x4_1.length : Int)) = false := bne_eq_false_iff_eq.mpr c24
              have c24b2 : (y110.length == x4_1.length) = true := by first | simpa using c24 | (simp at c24 ⊢; omega)
              clear c24
              simp only [Option.some.injEq, Prod.mk.injEq] at H
              obtain ⟨rfl, rfl⟩ := H
              have p106 : 0 ≤ (x23_2 : Int) := of_decide_eq_true (pY82)
              have q106 : x23_2 < (l0_1.length : Int) := of_decide_eq_true (pY82)
              obtain ⟨ad106, A106_1, c106_1, A106_2, c106_2, e106, hx106_0, hx106_1, hx106_2, hl106_1, hi106_1, hl106_2, hi106_2⟩ := at_T56 HR0_1.1 x23_2 p106 q106
              cases e106
              replace hx106_0 := hX HB hx106_0
              replace hx106_1 := hX HB hx106_1
              replace hx106_2 := hX HB hx106_2
              have HR106_1 := am hi106_1
              have HC106_1 := am hl106_1
              clear hi106_1 hl106_1
              have HR106_2 := am hi106_2
              have HC106_2 := am hl106_2
              clear hi106_2 hl106_2
              replace p106 := eq_true p106
              replace q106 := eq_true q106
              go_wp2_with (first | (refine bX 7 #[.string (⟨#[]⟩ : ByteArray), .slice none 0 0, .slice none 0 0] 56 ?_; intro gb107 hg w25 hbox hb; replace HO_4 := am (Kd.R_below (pY78) hb); have BK107 := am (hbox); have GW107 := am (pY45 : w.heap.size ≤ gb107); have GE107 := am (pY45 : w.heap.size ≤ gb107); replace HB := bS pY53 hb; have NB101_107 := nL pY58 hg; have NB107_101 := nG pY58 hg; replace BK101 := bB pY58 hb; clear hb hbox hg; have hnb26 := NB107_101.1; have hnc26 := NB101_107.1; obtain ⟨hcz27_0, hcz27_1, hcz27_2, hfz27_0, hfz27_1, hfz27_2⟩ := cz3 BK107; obtain ⟨Ao28, co28, eo28⟩ := Kd.R_slice HO_4.1; subst eo28) | ((with_reducible refine gate_callee (f := 81) rfl ?_); refine goesL_ (some 31) rfl rfl Try.func81 (by kernel_rfl) rfl #[.slice Ao28 x4_2.length co28, .string ((rd_T56 l0_1 x23_2).f0)] rfl (pY54) ?_; (with_reducible refine (slices_Contains_string_string.calls k2 _ _ x4_2 ((rd_T56 l0_1 x23_2).f0) false _ ?side1 ?side2 A15.out).mono ?_); (case side1 => refine (Kd.R_reads' (e := 9) (base := w.heap.size) (ok := fun k_ => True) (n := x4_2.length) (c := co28) ?_).2.2; exact (pY7)); (case side2 => exact (Kd.R_reads' HO_4.1).2.1); rintro e w' ⟨rfl, ⟨nd, rfl⟩⟩; refine ⟨_, rfl, ?_⟩; obtain ⟨hcz29_0, hcz29_1, hfz29_0, hfz29_1⟩ := cz2 BK101) | (go_at_call 85; (with_reducible refine (impl_ShareBook_can.calls k2 _ _ l0_0 _ _ l0_1 x23_2 _ _ x4_2 true _ ?side1 ?side2 ?side3 ?side4 ?side5 ?side6 A21.out).mono ?_); (case side1 => exact Kd.C_below HR0_0.1 (pY50)); (case side2 => exact HC0_0.1); (case side3 => exact Kd.C_below HR0_1.1 (pY50)); (case side4 => exact HC0_1.1); (case side5 => refine (Kd.R_reads' (e := 9) (base := w.heap.size) (ok := fun k_ => True) (n := x4_2.length) (c := co28) ?_).2.2; exact (pY7)); (case side6 => exact (Kd.R_reads' HO_4.1).2.1); rintro e w30 ⟨rfl, hb⟩; replace HO_4 := am (Kd.R_below (pY7) hb); replace BK101 := am (blk_below (g := gb101) (o := .cells #[.slice A0_0 l0_0.length c0_0, .slice (some ad106) l0_1.length c0_1] 31 (0, 0)) (pY4) hb); replace BK107 := am (blk_below (g := gb107) (o := .cells #[.string ((rd_T56 l0_1 x23_2).f0), .slice A106_1 ((rd_T56 l0_1 x23_2).f1).length c106_1, .slice A106_2 ((rd_T56 l0_1 x23_2).f2).length c106_2] 56 (0, 0)) (pY1) hb); replace HB := bS pY50 hb; (try clear hb); (try clear hb2); (try clear hk); (try clear hi); obtain ⟨hcz31_0, hcz31_1, hcz31_2, hfz31_0, hfz31_1, hfz31_2⟩ := cz3 BK107) | ((with_reducible refine gate_builtin (b := .append) (xs := #[.tmp 39, .tmp 42]) rfl ?_); at_builtin; refine Kd.R_append Kd.string (w0 := w) w.heap.size rfl (.tmp 39) (.tmp 42) 23 9 (.string ⟨#[]⟩) 16 rfl Try.underlying23 info9 rfl (by decide) (by omega) (.slice Ao28 x4_2.length co28) x4_2 ((rd_T56 l0_1 x23_2).f0) [.string ((rd_T56 l0_1 x23_2).f0)] (fun _ => True) (fun _ => False) rfl rfl ?aP (fun _ hk => hk.elim) ?aF ?aO ?aB ?aS ?aL ?_; (case aP => exact rfl); (case aB => exact (pY50)); (case aF => exact (fun _ _ => trivial)); (case aO => exact (pY78)); (case aS => exact (below_size (pY50))); (case aL => have := LMc23.out; omega); intro v111 w32 ho hb hg hat; rw [← Ny110.out] at ho; replace BK101 := am (blk_grown (g := gb101) (o := .cells #[.slice A0_0 l0_0.length c0_0, .slice (some ad106) l0_1.length c0_1] 31 (0, 0)) (pY58) hg (Kd.R_ne HO_4.1 BK101.1 (by decide))); replace BK107 := am (blk_grown (g := gb107) (o := .cells #[.string ((rd_T56 l0_1 x23_2).f0), .slice A106_1 ((rd_T56 l0_1 x23_2).f1).length c106_1, .slice A106_2 ((rd_T56 l0_1 x23_2).f2).length c106_2] 56 (0, 0)) (rB BK107.1) hg (Kd.R_ne HO_4.1 BK107.1 (by decide))); replace HB := am (hb); have HO112 := am (ho); clear HO_4; clear ho hb hg hat; obtain ⟨Ao33, co33, eo33⟩ := Kd.R_slice HO112.1; subst eo33))
              go_ret2
              exact ⟨_, by first | rfl | (simp [errW_none, errW_some] <;> rfl) | (simp [*, errW_none, errW_some] <;> rfl), by first | exact Kd.R_nil _ _ _ _ _ | exact Kd.N_nil _ _ _ _ _ | exact Kd.V_nil _ _ _ _ _ | exact Kd.Q_nil _ _ _ _ _ | exact Kd.S_nil _ _ _ _ _, pY50⟩
             ·rw [if_neg c24] at H
              have c24b0 : ((y110.length : Int) == (x4_1.length : Int)) = false := beq_eq_false_iff_ne.mpr c24
              have c24b1 : ((y110.length : Int) != (x4_1.length : Int)) = true := bne_iff_ne.mpr c24
              have c24b2 : (y110.length == x4_1.length) = false := by first | simpa using c24 | (simp at c24 ⊢; omega)
              have H' := am H
              clear H
              have p106 : 0 ≤ (x23_2 : Int) := of_decide_eq_true (pY82)
              have q106 : x23_2 < (l0_1.length : Int) := of_decide_eq_true (pY82)
              obtain ⟨ad106, A106_1, c106_1, A106_2, c106_2, e106, hx106_0, hx106_1, hx106_2, hl106_1, hi106_1, hl106_2, hi106_2⟩ := at_T56 HR0_1.1 x23_2 p106 q106
              cases e106
              replace hx106_0 := hX HB hx106_0
              replace hx106_1 := hX HB hx106_1
              replace hx106_2 := hX HB hx106_2
              have HR106_1 := am hi106_1
              have HC106_1 := am hl106_1
              clear hi106_1 hl106_1
              have HR106_2 := am hi106_2
              have HC106_2 := am hl106_2
              clear hi106_2 hl106_2
              replace p106 := eq_true p106
              replace q106 := eq_true q106
              go_wp2_with (first | (refine bX 7 #[.string (⟨#[]⟩ : ByteArray), .slice none 0 0, .slice none 0 0] 56 ?_; intro gb107 hg w34 hbox hb; replace HO_4 := am (Kd.R_below (pY78) hb); have BK107 := am (hbox); have GW107 := am (pY45 : w.heap.size ≤ gb107); have GE107 := am (pY45 : w.heap.size ≤ gb107); replace HB := bS pY53 hb; have NB101_107 := nL pY58 hg; have NB107_101 := nG pY58 hg; replace BK101 := bB pY58 hb; clear hb hbox hg; have hnb35 := NB107_101.1; have hnc35 := NB101_107.1; obtain ⟨hcz36_0, hcz36_1, hcz36_2, hfz36_0, hfz36_1, hfz36_2⟩ := cz3 BK107; obtain ⟨Ao37, co37, eo37⟩ := Kd.R_slice HO_4.1; subst eo37) | ((with_reducible refine gate_callee (f := 81) rfl ?_); refine goesL_ (some 31) rfl rfl Try.func81 (by kernel_rfl) rfl #[.slice Ao37 x4_2.length co37, .string ((rd_T56 l0_1 x23_2).f0)] rfl (pY54) ?_; (with_reducible refine (slices_Contains_string_string.calls k2 _ _ x4_2 ((rd_T56 l0_1 x23_2).f0) false _ ?side1 ?side2 A15.out).mono ?_); (case side1 => refine (Kd.R_reads' (e := 9) (base := w.heap.size) (ok := fun k_ => True) (n := x4_2.length) (c := co37) ?_).2.2; exact (pY7)); (case side2 => exact (Kd.R_reads' HO_4.1).2.1); rintro e w' ⟨rfl, ⟨nd, rfl⟩⟩; refine ⟨_, rfl, ?_⟩; obtain ⟨hcz38_0, hcz38_1, hfz38_0, hfz38_1⟩ := cz2 BK101) | (go_at_call 85; (with_reducible refine (impl_ShareBook_can.calls k2 _ _ l0_0 _ _ l0_1 x23_2 _ _ x4_2 true _ ?side1 ?side2 ?side3 ?side4 ?side5 ?side6 A21.out).mono ?_); (case side1 => exact Kd.C_below HR0_0.1 (pY50)); (case side2 => exact HC0_0.1); (case side3 => exact Kd.C_below HR0_1.1 (pY50)); (case side4 => exact HC0_1.1); (case side5 => refine (Kd.R_reads' (e := 9) (base := w.heap.size) (ok := fun k_ => True) (n := x4_2.length) (c := co37) ?_).2.2; exact (pY7)); (case side6 => exact (Kd.R_reads' HO_4.1).2.1); rintro e w39 ⟨rfl, hb⟩; replace HO_4 := am (Kd.R_below (pY7) hb); replace BK101 := am (blk_below (g := gb101) (o := .cells #[.slice A0_0 l0_0.length c0_0, .slice (some ad106) l0_1.length c0_1] 31 (0, 0)) (pY4) hb); replace BK107 := am (blk_below (g := gb107) (o := .cells #[.string ((rd_T56 l0_1 x23_2).f0), .slice A106_1 ((rd_T56 l0_1 x23_2).f1).length c106_1, .slice A106_2 ((rd_T56 l0_1 x23_2).f2).length c106_2] 56 (0, 0)) (pY1) hb); replace HB := bS pY50 hb; (try clear hb); (try clear hb2); (try clear hk); (try clear hi); obtain ⟨hcz40_0, hcz40_1, hcz40_2, hfz40_0, hfz40_1, hfz40_2⟩ := cz3 BK107) | ((with_reducible refine gate_builtin (b := .append) (xs := #[.tmp 39, .tmp 42]) rfl ?_); at_builtin; refine Kd.R_append Kd.string (w0 := w) w.heap.size rfl (.tmp 39) (.tmp 42) 23 9 (.string ⟨#[]⟩) 16 rfl Try.underlying23 info9 rfl (by decide) (by omega) (.slice Ao37 x4_2.length co37) x4_2 ((rd_T56 l0_1 x23_2).f0) [.string ((rd_T56 l0_1 x23_2).f0)] (fun _ => True) (fun _ => False) rfl rfl ?aP (fun _ hk => hk.elim) ?aF ?aO ?aB ?aS ?aL ?_; (case aP => exact rfl); (case aB => exact (pY50)); (case aF => exact (fun _ _ => trivial)); (case aO => exact (pY78)); (case aS => exact (below_size (pY50))); (case aL => have := LMc23.out; omega); intro v111 w41 ho hb hg hat; rw [← Ny110.out] at ho; replace BK101 := am (blk_grown (g := gb101) (o := .cells #[.slice A0_0 l0_0.length c0_0, .slice (some ad106) l0_1.length c0_1] 31 (0, 0)) (pY58) hg (Kd.R_ne HO_4.1 BK101.1 (by decide))); replace BK107 := am (blk_grown (g := gb107) (o := .cells #[.string ((rd_T56 l0_1 x23_2).f0), .slice A106_1 ((rd_T56 l0_1 x23_2).f1).length c106_1, .slice A106_2 ((rd_T56 l0_1 x23_2).f2).length c106_2] 56 (0, 0)) (rB BK107.1) hg (Kd.R_ne HO_4.1 BK107.1 (by decide))); replace HB := am (hb); have HO112 := am (ho); clear HO_4; clear ho hb hg hat; obtain ⟨Ao42, co42, eo42⟩ := Kd.R_slice HO112.1; subst eo42))
              go_roundg k2
              case measure => have := HK1.out; have := HK2.out; omega
              case rel => exact ⟨(y110), H', ⟨by have := HK1.out; have := HK2.out; omega⟩, ⟨rR HO112.1⟩, ⟨rB BK101.1⟩, ⟨pY50⟩⟩
            ·rw [if_neg c23] at H
             exact absurd H (by simp)
           ·replace c22 := Bool.eq_false_iff.mpr c22
            subst c22
            replace H := iF H
            have H' := am H
            clear H
            have p106 : 0 ≤ (x23_2 : Int) := of_decide_eq_true (pY82)
            have q106 : x23_2 < (l0_1.length : Int) := of_decide_eq_true (pY82)
            obtain ⟨ad106, A106_1, c106_1, A106_2, c106_2, e106, hx106_0, hx106_1, hx106_2, hl106_1, hi106_1, hl106_2, hi106_2⟩ := at_T56 HR0_1.1 x23_2 p106 q106
            cases e106
            replace hx106_0 := hX HB hx106_0
            replace hx106_1 := hX HB hx106_1
            replace hx106_2 := hX HB hx106_2
            have HR106_1 := am hi106_1
            have HC106_1 := am hl106_1
            clear hi106_1 hl106_1
            have HR106_2 := am hi106_2
            have HC106_2 := am hl106_2
            clear hi106_2 hl106_2
            replace p106 := eq_true p106
            replace q106 := eq_true q106
            go_wp2_with (first | (refine bX 7 #[.string (⟨#[]⟩ : ByteArray), .slice none 0 0, .slice none 0 0] 56 ?_; intro gb107 hg w43 hbox hb; replace HO_4 := am (Kd.R_below (pY78) hb); have BK107 := am (hbox); have GW107 := am (pY45 : w.heap.size ≤ gb107); have GE107 := am (pY45 : w.heap.size ≤ gb107); replace HB := bS pY53 hb; have NB101_107 := nL pY58 hg; have NB107_101 := nG pY58 hg; replace BK101 := bB pY58 hb; clear hb hbox hg; have hnb44 := NB107_101.1; have hnc44 := NB101_107.1; obtain ⟨hcz45_0, hcz45_1, hcz45_2, hfz45_0, hfz45_1, hfz45_2⟩ := cz3 BK107; obtain ⟨Ao46, co46, eo46⟩ := Kd.R_slice HO_4.1; subst eo46) | ((with_reducible refine gate_callee (f := 81) rfl ?_); refine goesL_ (some 31) rfl rfl Try.func81 (by kernel_rfl) rfl #[.slice Ao46 x4_2.length co46, .string ((rd_T56 l0_1 x23_2).f0)] rfl (pY54) ?_; (with_reducible refine (slices_Contains_string_string.calls k2 _ _ x4_2 ((rd_T56 l0_1 x23_2).f0) false _ ?side1 ?side2 A15.out).mono ?_); (case side1 => refine (Kd.R_reads' (e := 9) (base := w.heap.size) (ok := fun k_ => True) (n := x4_2.length) (c := co46) ?_).2.2; exact (pY7)); (case side2 => exact (Kd.R_reads' HO_4.1).2.1); rintro e w' ⟨rfl, ⟨nd, rfl⟩⟩; refine ⟨_, rfl, ?_⟩; obtain ⟨hcz47_0, hcz47_1, hfz47_0, hfz47_1⟩ := cz2 BK101) | (go_at_call 85; (with_reducible refine (impl_ShareBook_can.calls k2 _ _ l0_0 _ _ l0_1 x23_2 _ _ x4_2 false _ ?side1 ?side2 ?side3 ?side4 ?side5 ?side6 A21.out).mono ?_); (case side1 => exact Kd.C_below HR0_0.1 (pY50)); (case side2 => exact HC0_0.1); (case side3 => exact Kd.C_below HR0_1.1 (pY50)); (case side4 => exact HC0_1.1); (case side5 => refine (Kd.R_reads' (e := 9) (base := w.heap.size) (ok := fun k_ => True) (n := x4_2.length) (c := co46) ?_).2.2; exact (pY7)); (case side6 => exact (Kd.R_reads' HO_4.1).2.1); rintro e w48 ⟨rfl, hb⟩; replace HO_4 := am (Kd.R_below (pY7) hb); replace BK101 := am (blk_below (g := gb101) (o := .cells #[.slice A0_0 l0_0.length c0_0, .slice (some ad106) l0_1.length c0_1] 31 (0, 0)) (pY4) hb); replace BK107 := am (blk_below (g := gb107) (o := .cells #[.string ((rd_T56 l0_1 x23_2).f0), .slice A106_1 ((rd_T56 l0_1 x23_2).f1).length c106_1, .slice A106_2 ((rd_T56 l0_1 x23_2).f2).length c106_2] 56 (0, 0)) (pY1) hb); replace HB := bS pY50 hb; (try clear hb); (try clear hb2); (try clear hk); (try clear hi)))
            go_roundg k2
            case measure => have := HK1.out; have := HK2.out; omega
            case rel => exact ⟨(x4_2), (wrap64 (x23_2 + 1)), (pY83), H', ⟨by have := HK1.out; have := HK2.out; omega⟩, ⟨rR HO_4.1⟩, ⟨rB BK101.1⟩, ⟨pY50⟩⟩
         ·rw [if_neg c14] at H
          exact absurd H (by simp)
        ·rw [if_neg c13] at H
         exact absurd H (by simp)
       ·rw [if_neg c12] at H
        have c12b0 : decide (x23_2 < (l0_1.length : Int)) = false := decide_eq_false c12
        clear c12
        by_cases c49 : (x4_2.length : Int) = (x4_1.length : Int)
        ·rw [if_pos c49] at H
         have c49b0 : ((x4_2.length : Int) == (x4_1.length : Int)) = true := beq_iff_eq.mpr c49
         have c49b1 : ((x4_2.length : Int) != (x4_1.length : Int)) = false := bne_eq_false_iff_eq.mpr c49
         have c49b2 : (x4_2.length == x4_1.length) = true := by first | simpa using c49 | (simp at c49 ⊢; omega)
         clear c49
         simp only [Option.some.injEq, Prod.mk.injEq] at H
         obtain ⟨rfl, rfl⟩ := H
         obtain ⟨Ao50, co50, eo50⟩ := Kd.R_slice HO_4.1
         subst eo50
         go_wp2
         go_ret2
         exact ⟨_, by first | rfl | (simp [errW_none, errW_some] <;> rfl) | (simp [*, errW_none, errW_some] <;> rfl), by first | exact Kd.R_nil _ _ _ _ _ | exact Kd.N_nil _ _ _ _ _ | exact Kd.V_nil _ _ _ _ _ | exact Kd.Q_nil _ _ _ _ _ | exact Kd.S_nil _ _ _ _ _, pY53⟩
        ·rw [if_neg c49] at H
         have c49b0 : ((x4_2.length : Int) == (x4_1.length : Int)) = false := beq_eq_false_iff_ne.mpr c49
         have c49b1 : ((x4_2.length : Int) != (x4_1.length : Int)) = true := bne_iff_ne.mpr c49
         have c49b2 : (x4_2.length == x4_1.length) = false := by first | simpa using c49 | (simp at c49 ⊢; omega)
         have H' := am H
         clear H
         obtain ⟨Ao51, co51, eo51⟩ := Kd.R_slice HO_4.1
         subst eo51
         go_wp2
         go_roundg k2
         case measure => have := HK1.out; have := HK2.out; omega
         case rel => exact ⟨(x4_2), H', ⟨by have := HK1.out; have := HK2.out; omega⟩, ⟨rR HO_4.1⟩, ⟨rB BK101.1⟩, ⟨pY53⟩⟩
    ·rw [if_neg c9] at H
     have c9b0 : decide ((x4_1.length : Int) < (l0_1.length : Int)) = false := decide_eq_false c9
     have c9b1 : decide (x4_1.length < l0_1.length) = false := decide_eq_false (fun h => c9 (Int.ofNat_lt.mpr h))
     clear c9
     simp only [Option.some.injEq, Prod.mk.injEq] at H
     obtain ⟨rfl, rfl⟩ := H
     obtain ⟨Ao52, co52, eo52⟩ := Kd.R_slice HO_4.1
     subst eo52
     obtain ⟨hcz53_0, hcz53_1, hfz53_0, hfz53_1⟩ := cz2 BK101
     go_wp2
     go_ret2
     exact ⟨_, by first | rfl | (simp [errW_none, errW_some] <;> rfl) | (simp [*, errW_none, errW_some] <;> rfl), rR HO_4.1, pY53⟩
 ·replace c3 := Bool.eq_false_iff.mpr c3
  subst c3
  replace H := iF H
  simp only [Option.some.injEq, Prod.mk.injEq] at H
  obtain ⟨rfl, rfl⟩ := H
  go_enter Try.func45, Try.ntmps45
  go_wp2_with (first | (refine bX 1 #[.slice A0_0 l0_0.length c0_0, .slice A0_1 l0_1.length c0_1] 31 ?_; intro gb101 hg w54 hbox hb; have BK101 := am (hbox); have GW101 := am (pY52 : w.heap.size ≤ gb101); have GE101 := am (pY52 : w.heap.size ≤ gb101); replace HB := bS pY55 hb; clear hb hbox hg; obtain ⟨hcz55_0, hcz55_1, hfz55_0, hfz55_1⟩ := cz2 BK101) | ((with_reducible refine gate_callee (f := 24) rfl ?_); refine goesL_ (some 9) rfl rfl Try.func24 (by kernel_rfl) rfl #[.agg #[.slice A0_0 l0_0.length c0_0, .slice A0_1 l0_1.length c0_1]] rfl (pY54) ?_; (with_reducible refine (impl_ShareBookOk.calls k _ _ l0_0 _ _ l0_1 false _ ?side1 ?side2 ?side3 ?side4 A2.out).mono ?_); (case side1 => exact pC (Kd.C_below HR0_0.1 HB.1)); (case side2 => exact HC0_0.1); (case side3 => exact pC (Kd.C_below HR0_1.1 HB.1)); (case side4 => exact HC0_1.1); rintro e w56 ⟨rfl, hb⟩; refine ⟨_, rfl, ?_⟩; replace BK101 := bB pY58 hb; replace HB := bS pY53 hb; (try clear hb); (try clear hb2); (try clear hk); (try clear hi)))
  go_ret2
  exact ⟨_, by first | rfl | (simp [errW_none, errW_some] <;> rfl) | (simp [*, errW_none, errW_some] <;> rfl), by first | exact Kd.R_nil _ _ _ _ _ | exact Kd.N_nil _ _ _ _ _ | exact Kd.V_nil _ _ _ _ _ | exact Kd.Q_nil _ _ _ _ _ | exact Kd.S_nil _ _ _ _ _, pY53⟩
end Go.Proofs.Ytaofjgnhapnndaa.Q
namespace Go.Proofs.Ytaofjgnhapnndaa.Q
open Go.RowKit Go.Proofs.YtaofjgnhapnndaaW.PrintWords Go.Proofs.YtaofjgnhapnndaaW.PrintLast Go.Proofs.YtaofjgnhapnndaaW.PrintMore
set_option linter.unusedVariables false
set_option linter.unusedSimpArgs false
def impl_ShareSafe.f (k : Nat) (l0_0 : List ByteArray) (l0_1 : List (S56)) : Option (Bool) := (impl_ShareOrder.f k l0_0 l0_1).bind fun bt102 => (some bt102.2)
set_option maxHeartbeats 8000000 in
set_option maxRecDepth 100000 in
theorem impl_ShareSafe.calls (k : Nat) (A0_0 : Option Addr) (c0_0 : Nat) (l0_0 : List ByteArray) (A0_1 : Option Addr) (c0_1 : Nat) (l0_1 : List (S56)) (r : Bool) (w : World) (hr0_0 : Kd.C Kd.string w A0_0 l0_0.length l0_0) (hc0_0 : l0_0.length ≤ c0_0) (hr0_1 : Kd.C k56 w A0_1 l0_1.length l0_1) (hc0_1 : l0_1.length ≤ c0_1) (h : impl_ShareSafe.f k l0_0 l0_1 = some r) :
  Calls Try.prog 36 #[.agg #[.slice A0_0 l0_0.length c0_0, .slice A0_1 l0_1.length c0_1]] w fun e w' => e = .returned (.bool r) ∧ Below w.heap.size w w' := by
 have hu31 := Try.underlying31
 have HR0_0 := am hr0_0
 have HC0_0 := am hc0_0
 clear hr0_0 hc0_0
 have HR0_1 := am hr0_1
 have HC0_1 := am hc0_1
 clear hr0_1 hc0_1
 have HB := am (Below.refl w.heap.size w)
 have H : ((impl_ShareOrder.f k l0_0 l0_1).bind fun bt102 => (some bt102.2)) = some r := h
 clear h
 obtain ⟨⟨t102, t105⟩, A2, H⟩ := bd H
 dsimp only at H
 obtain rfl := Option.some.inj H
 go_enter Try.func36, Try.ntmps36
 go_wp2_with (first | (refine bX 1 #[.slice A0_0 l0_0.length c0_0, .slice A0_1 l0_1.length c0_1] 31 ?_; intro gb101 hg w3 hbox hb; have BK101 := am (hbox); have GW101 := am (pY52 : w.heap.size ≤ gb101); have GE101 := am (pY52 : w.heap.size ≤ gb101); replace HB := bS pY55 hb; clear hb hbox hg; obtain ⟨hcz4_0, hcz4_1, hfz4_0, hfz4_1⟩ := cz2 BK101) | ((with_reducible refine gate_callee (f := 45) rfl ?_); refine goesL_ (some 7) rfl rfl Try.func45 (by kernel_rfl) rfl #[.agg #[.slice A0_0 l0_0.length c0_0, .slice A0_1 l0_1.length c0_1]] rfl (pY54) ?_; (with_reducible refine (impl_ShareOrder.calls k _ _ l0_0 _ _ l0_1 t102 t105 _ ?side1 ?side2 ?side3 ?side4 A2.out).mono ?_); (case side1 => exact pC (Kd.C_below HR0_0.1 HB.1)); (case side2 => exact HC0_0.1); (case side3 => exact pC (Kd.C_below HR0_1.1 HB.1)); (case side4 => exact HC0_1.1); rintro e w5 ⟨v103, rfl, ho0, hb⟩; refine ⟨_, rfl, ?_⟩; have HO104 := am (Kd.R_lower ho0 (below_size (pY53))); replace BK101 := bB pY58 hb; replace HB := bS pY53 hb; (try clear hb); (try clear hb2); (try clear hk); (try clear hi); (try clear ho0)))
 go_ret
 exact ⟨by first | rfl | (simp [errW_none, errW_some] <;> rfl) | (simp [*, errW_none, errW_some] <;> rfl), pY53⟩
end Go.Proofs.Ytaofjgnhapnndaa.Q
namespace Go.Proofs.Ytaofjgnhapnndaa.Q
open Go.RowKit Go.Proofs.YtaofjgnhapnndaaW.PrintWords Go.Proofs.YtaofjgnhapnndaaW.PrintLast Go.Proofs.YtaofjgnhapnndaaW.PrintMore
set_option linter.unusedVariables false
set_option linter.unusedSimpArgs false
theorem Ev.pos {α : Type} {c : Prop} [Decidable c] {a b : Nat → Option α} {r : α} (h : c) (H : Ev a r) : Ev (fun k => if c then a k else b k) r := by
  obtain ⟨K, hK⟩ := H
  exact ⟨K, fun k hk => by simp only [if_pos h]; exact hK k hk⟩
theorem Ev.neg {α : Type} {c : Prop} [Decidable c] {a b : Nat → Option α} {r : α} (h : ¬ c) (H : Ev b r) : Ev (fun k => if c then a k else b k) r := by
  obtain ⟨K, hK⟩ := H
  exact ⟨K, fun k hk => by simp only [if_neg h]; exact hK k hk⟩
theorem Ev.ret {α : Type} {r s : α} (h : r = s) : Ev (fun _ => some r) s := ⟨0, fun _ _ => by rw [h]⟩
theorem Ev.sub {α : Type} {g : Nat → Option α} {r s : α} (H : Ev g r) (h : r = s) : Ev g s := h ▸ H
theorem Ev.test {α : Type} {a b : Nat → Option α} {r : α} (t : Bool) (H1 : t = true → Ev a r) (H2 : t = false → Ev b r) : Ev (fun k => if t = true then a k else b k) r := by
  cases t with
  | true => exact Ev.pos rfl (H1 rfl)
  | false => exact Ev.neg (by simp) (H2 rfl)
theorem Ev.prop {α : Type} {c : Prop} [Decidable c] {a b : Nat → Option α} {r : α} (H1 : c → Ev a r) (H2 : ¬ c → Ev b r) : Ev (fun k => if c then a k else b k) r := by
  by_cases h : c
  · exact Ev.pos h (H1 h)
  · exact Ev.neg h (H2 h)
theorem Ev.loop {α : Type} {f : Nat → Nat → Option α} {val : Nat → α} (n : Nat) (hend : Ev (fun k => f k n) (val n))
    (hstep : ∀ i, i < n → Ev (fun k => f k (i + 1)) (val (i + 1)) → Ev (fun k => f k i) (val i)) : ∀ i, i ≤ n → Ev (fun k => f k i) (val i) := by
  intro i hi
  obtain ⟨d, hd⟩ : ∃ d, n - i = d := ⟨_, rfl⟩
  induction d generalizing i with
  | zero => have : i = n := by omega
            subst this; exact hend
  | succ d ih => exact hstep i (by omega) (ih (i + 1) (by omega) (by omega))
def allR (P : Nat → Bool) (n i : Nat) : Bool := (List.range' i (n - i)).all P
def anyR (P : Nat → Bool) (n i : Nat) : Bool := (List.range' i (n - i)).any P
theorem allR_end (P : Nat → Bool) (n : Nat) : allR P n n = true := by simp [allR]
theorem anyR_end (P : Nat → Bool) (n : Nat) : anyR P n n = false := by simp [anyR]
theorem allR_step (P : Nat → Bool) {n i : Nat} (h : i < n) : allR P n i = (P i && allR P n (i + 1)) := by
  unfold allR; rw [show n - i = (n - (i + 1)) + 1 by omega, List.range'_succ, List.all_cons]
theorem anyR_step (P : Nat → Bool) {n i : Nat} (h : i < n) : anyR P n i = (P i || anyR P n (i + 1)) := by
  unfold anyR; rw [show n - i = (n - (i + 1)) + 1 by omega, List.range'_succ, List.any_cons]
theorem allR_iff (P : Nat → Bool) (n i : Nat) : allR P n i = true ↔ ∀ j, i ≤ j → j < n → P j = true := by
  unfold allR; rw [List.all_eq_true]
  constructor
  · intro h j h1 h2; exact h j (by rw [List.mem_range'_1]; omega)
  · intro h j hj; rw [List.mem_range'_1] at hj; exact h j (by omega) (by omega)
theorem anyR_iff (P : Nat → Bool) (n i : Nat) : anyR P n i = true ↔ ∃ j, i ≤ j ∧ j < n ∧ P j = true := by
  unfold anyR; rw [List.any_eq_true]
  constructor
  · rintro ⟨j, hj, h⟩; rw [List.mem_range'_1] at hj; exact ⟨j, by omega, by omega, h⟩
  · rintro ⟨j, h1, h2, h⟩; exact ⟨j, by rw [List.mem_range'_1]; omega, h⟩
theorem Ev.loopAll {f : Nat → Nat → Option Bool} {P : Nat → Bool} (n : Nat) (hend : Ev (fun k => f k n) true)
    (hyes : ∀ i r, i < n → P i = true → Ev (fun k => f k (i + 1)) r → Ev (fun k => f k i) r) (hno : ∀ i, i < n → P i = false → Ev (fun k => f k i) false) : ∀ i, i ≤ n → Ev (fun k => f k i) (allR P n i) :=
  Ev.loop (val := allR P n) n (by rw [allR_end]; exact hend) fun i hi H => by
    rw [allR_step P hi]
    cases h : P i with
    | true => exact hyes i _ hi h H
    | false => exact hno i hi h
theorem Ev.loopAny {f : Nat → Nat → Option Bool} {P : Nat → Bool} (n : Nat) (hend : Ev (fun k => f k n) false)
    (hno : ∀ i r, i < n → P i = false → Ev (fun k => f k (i + 1)) r → Ev (fun k => f k i) r) (hyes : ∀ i, i < n → P i = true → Ev (fun k => f k i) true) : ∀ i, i ≤ n → Ev (fun k => f k i) (anyR P n i) :=
  Ev.loop (val := anyR P n) n (by rw [anyR_end]; exact hend) fun i hi H => by
    rw [anyR_step P hi]
    cases h : P i with
    | false => exact hno i _ hi h H
    | true => exact hyes i hi h
theorem anyR_list {α : Type} (p : α → Bool) (z : α) (l : List α) : anyR (fun j => p (l.getD j z)) l.length 0 = l.any p := by
  rw [Bool.eq_iff_iff, anyR_iff, List.any_eq_true]
  constructor
  · rintro ⟨j, _, h, hp⟩; exact ⟨l.getD j z, by rw [List.getD_eq_getElem?_getD, List.getElem?_eq_getElem h]; exact List.getElem_mem h, hp⟩
  · rintro ⟨x, hx, hp⟩; obtain ⟨j, h, rfl⟩ := List.getElem_of_mem hx; exact ⟨j, by omega, h, by rw [List.getD_eq_getElem?_getD, List.getElem?_eq_getElem h]; exact hp⟩
theorem rdOf_cast {α : Type} (d : α) (l : List α) (i : Nat) : rdOf d l (i : Int) = l.getD i d := by
  unfold rdOf; rw [Int.toNat_natCast]
theorem wrap_up {i n : Nat} (h : i < n) (hn : n ≤ 9223372036854775807) : wrap64 ((i : Int) + 1) = ((i + 1 : Nat) : Int) := by
  unfold wrap64; omega
theorem wrap_down {i : Nat} (h : 0 < i) (hn : i ≤ 9223372036854775807) : wrap64 ((i : Int) - 1) = ((i - 1 : Nat) : Int) := by
  unfold wrap64; omega
theorem wrap_sub {a b : Int} (ha : a ≤ 9223372036854775807) (h0 : 0 ≤ a) (hb : 0 ≤ b) (hb2 : b ≤ 9223372036854775807) : wrap64 (a - b) = a - b := by
  unfold wrap64; omega
theorem toList_inj {a b : ByteArray} : a.toList = b.toList ↔ a = b := by
  constructor
  · intro h
    rw [ByteArray.toList_eq, ByteArray.toList_eq] at h
    cases a; cases b
    simpa using h
  · intro h; rw [h]
end Go.Proofs.Ytaofjgnhapnndaa.Q
namespace Go.Proofs.Ytaofjgnhapnndaa.Q
open Go.RowKit Go.Proofs.YtaofjgnhapnndaaW.PrintWords Go.Proofs.YtaofjgnhapnndaaW.PrintLast Go.Proofs.YtaofjgnhapnndaaW.PrintMore
set_option linter.unusedVariables false
set_option linter.unusedSimpArgs false
def gS (l : List ByteArray) (i : Nat) : ByteArray := l.getD i ByteArray.empty
def ltB (a b : ByteArray) : Bool := Op.bytesLess a.toList b.toList
theorem rdS_cast (l : List ByteArray) (i : Nat) : rdOf ByteArray.empty l (i : Int) = gS l i := rdOf_cast _ _ _
def namesP (l all : List ByteArray) (j : Nat) : Bool := hasS all (gS l j) && (decide (j = 0) || ltB (gS l (j - 1)) (gS l j))
def namesB (l all : List ByteArray) : Bool := allR (namesP l all) l.length 0
def shareB (a b : List ByteArray) : Bool := a.any (hasS b)
def thingsP (l : List ByteArray) (j : Nat) : Bool := nameB (gS l j) && (decide (j = 0) || ltB (gS l (j - 1)) (gS l j))
def thingsB (l : List ByteArray) : Bool := decide (l.length ≤ 8) && allR (thingsP l) l.length 0
theorem ahead_ev {α : Type} {l : List ByteArray} {i : Nat} (hi : i < l.length) (hl : l.length ≤ 9223372036854775807) {a b : Nat → Option α} {r : α}
    (H1 : (decide (i = 0) || ltB (gS l (i - 1)) (gS l i)) = true → Ev a r) (H2 : (decide (i = 0) || ltB (gS l (i - 1)) (gS l i)) = false → Ev b r) :
    Ev (fun k => if (i : Int) > 0 then (if 0 ≤ (wrap64 ((i : Int) - 1)) then (if (wrap64 ((i : Int) - 1)) < (l.length : Int) then (if ((Op.bytesLess ((rdOf ByteArray.empty l (wrap64 ((i : Int) - 1))).toList) ((rdOf ByteArray.empty l (i : Int)).toList)) = true) then a k else b k) else none) else none) else a k) r := by
  by_cases h0 : i = 0
  · exact Ev.neg (by omega) (H1 (by simp [h0]))
  · rw [wrap_down (by omega) (by omega), rdS_cast, rdS_cast]
    refine Ev.pos (by omega) (Ev.pos (by omega) (Ev.pos (by omega) (Ev.test _ (fun h => H1 ?_) (fun h => H2 ?_))))
    · simp only [ltB, h, Bool.or_true]
    · simp only [ltB, h, h0, decide_false, Bool.or_false]
theorem spec_l1In_at (n low high : Int) : spec_l1In.f n low high = some (decide (low ≤ n) && decide (n ≤ high)) := by
  unfold spec_l1In.f
  by_cases h : n ≥ low
  · rw [if_pos h, show decide (low ≤ n) = true from decide_eq_true h]; rfl
  · rw [if_neg h, show decide (low ≤ n) = false from decide_eq_false h]; rfl
theorem spec_l1NameOk_ev (s : ByteArray) : Ev (fun k => spec_l1NameOk.f k s) (nameB s) := by
  unfold spec_l1NameOk.f
  simp only [spec_l1In_at, Option.bind_some]
  refine Ev.test _ (fun h => ?_) (fun h => ?_)
  · simp only [Bool.and_eq_true, decide_eq_true_eq] at h
    have E := Ev.loopAll (f := fun k i => spec_l1NameOk.l0 k s (i : Int)) (P := fun j => okc (bt s (j : Int))) s.size
      (by refine Ev.step (fun k => spec_l1NameOk.l0.eq_2 s _ k) ?_
          exact Ev.neg (by omega) (Ev.ret rfl))
      (fun i r hi hp H => by
        refine Ev.step (fun k => spec_l1NameOk.l0.eq_2 s _ k) ?_
        refine Ev.pos (by omega) (Ev.pos (by omega) ?_)
        simp only [okc_ite]
        rw [wrap_up hi (by omega)]
        exact Ev.pos hp H)
      (fun i hi hp => by
        refine Ev.step (fun k => spec_l1NameOk.l0.eq_2 s _ k) ?_
        refine Ev.pos (by omega) (Ev.pos (by omega) ?_)
        simp only [okc_ite]
        exact Ev.neg (by simp [hp]) (Ev.ret rfl)) 0 (by omega)
    refine Ev.sub E ?_
    unfold nameB allR
    rw [show decide (1 ≤ s.size) = true from decide_eq_true (by omega), show decide (s.size ≤ 8) = true from decide_eq_true (by omega)]
    rfl
  · refine Ev.ret ?_
    unfold nameB
    by_cases h1 : 1 ≤ s.size
    · by_cases h2 : s.size ≤ 8
      · have : (decide ((1 : Int) ≤ (s.size : Int)) && decide ((s.size : Int) ≤ 8)) = true := by simp; omega
        rw [this] at h; cases h
      · simp [h2]
    · simp [h1]
theorem spec_l1Has_ev (l : List ByteArray) (s : ByteArray) (hl : l.length ≤ 9223372036854775807) : Ev (fun k => spec_l1Has.f k l s) (hasS l s) := by
  unfold spec_l1Has.f
  have E := Ev.loopAny (f := fun k i => spec_l1Has.l0 k l s (i : Int)) (P := fun j => (fun x : ByteArray => s.toList == x.toList) (l.getD j ByteArray.empty)) l.length
    (by refine Ev.step (fun k => spec_l1Has.l0.eq_2 l s _ k) ?_
        exact Ev.neg (by omega) (Ev.ret rfl))
    (fun i r hi hp H => by
      refine Ev.step (fun k => spec_l1Has.l0.eq_2 l s _ k) ?_
      refine Ev.pos (by omega) (Ev.pos (by omega) ?_)
      rw [wrap_up hi hl, rdS_cast]
      exact Ev.neg (fun e => by simp [← e, gS] at hp) H)
    (fun i hi hp => by
      refine Ev.step (fun k => spec_l1Has.l0.eq_2 l s _ k) ?_
      refine Ev.pos (by omega) (Ev.pos (by omega) ?_)
      rw [rdS_cast]
      exact Ev.pos (beq_iff_eq.mp (show (s.toList == (gS l i).toList) = true from hp)).symm (Ev.ret rfl)) 0 (by omega)
  exact Ev.sub E (anyR_list (fun x : ByteArray => s.toList == x.toList) ByteArray.empty l)
theorem contains_ev (l : List ByteArray) (s : ByteArray) (hl : l.length ≤ 9223372036854775807) : Ev (fun k => slices_Contains_string_string.f k l s) (hasS l s) :=
  Ev.of (slices_Contains_string_string.mono l s) (contains_at l s hl)
theorem name_ev (s : ByteArray) : Ev (fun k => impl_name.f k s) (nameB s) := Ev.of (impl_name.mono s) (name_at s)
theorem spec_l1NamesOk_ev (l all : List ByteArray) (hl : l.length ≤ 9223372036854775807) (ha : all.length ≤ 9223372036854775807) : Ev (fun k => spec_l1NamesOk.f k l all) (namesB l all) := by
  unfold spec_l1NamesOk.f
  refine Ev.loopAll (f := fun k i => spec_l1NamesOk.l0 k l all (i : Int)) (P := namesP l all) l.length
    (by refine Ev.step (fun k => spec_l1NamesOk.l0.eq_2 l all _ k) ?_
        exact Ev.neg (by omega) (Ev.ret rfl))
    (fun i r hi hp H => by
      simp only [namesP, Bool.and_eq_true] at hp
      refine Ev.step (fun k => spec_l1NamesOk.l0.eq_2 l all _ k) ?_
      refine Ev.pos (by omega) (Ev.pos (by omega) (Ev.bind (spec_l1Has_ev all _ ha) ?_))
      rw [rdS_cast, hp.1]
      refine Ev.pos rfl (ahead_ev hi hl (fun _ => ?_) (fun h => by rw [hp.2] at h; cases h))
      rw [wrap_up hi hl]
      exact H)
    (fun i hi hp => by
      refine Ev.step (fun k => spec_l1NamesOk.l0.eq_2 l all _ k) ?_
      refine Ev.pos (by omega) (Ev.pos (by omega) (Ev.bind (spec_l1Has_ev all _ ha) ?_))
      rw [rdS_cast]
      refine Ev.test _ (fun h1 => ahead_ev hi hl (fun h2 => ?_) (fun h => Ev.ret rfl)) (fun _ => Ev.ret rfl)
      simp only [namesP, h1, h2, Bool.and_true] at hp
      cases hp) 0 (by omega)
theorem impl_of_ev (l all : List ByteArray) (hl : l.length ≤ 9223372036854775807) (ha : all.length ≤ 9223372036854775807) : Ev (fun k => impl_of.f k l all) (namesB l all) := by
  unfold impl_of.f
  refine Ev.loopAll (f := fun k i => impl_of.l0 k l all l (l.length : Int) (i : Int)) (P := namesP l all) l.length
    (by refine Ev.step (fun k => impl_of.l0.eq_2 l all l _ _ k) ?_
        exact Ev.neg (by omega) (Ev.ret rfl))
    (fun i r hi hp H => by
      simp only [namesP, Bool.and_eq_true] at hp
      refine Ev.step (fun k => impl_of.l0.eq_2 l all l _ _ k) ?_
      refine Ev.pos (by omega) (Ev.pos (by omega) (Ev.pos (by omega) (Ev.bind (contains_ev all _ ha) ?_)))
      rw [rdS_cast, hp.1]
      refine Ev.pos rfl (ahead_ev hi hl (fun _ => ?_) (fun h => by rw [hp.2] at h; cases h))
      rw [wrap_up hi hl]
      exact H)
    (fun i hi hp => by
      refine Ev.step (fun k => impl_of.l0.eq_2 l all l _ _ k) ?_
      refine Ev.pos (by omega) (Ev.pos (by omega) (Ev.pos (by omega) (Ev.bind (contains_ev all _ ha) ?_)))
      rw [rdS_cast]
      refine Ev.test _ (fun h1 => ahead_ev hi hl (fun h2 => ?_) (fun h => Ev.ret rfl)) (fun _ => Ev.ret rfl)
      simp only [namesP, h1, h2, Bool.and_true] at hp
      cases hp) 0 (by omega)
theorem spec_l1ThingsOk_ev (l : List ByteArray) : Ev (fun k => spec_l1ThingsOk.f k l) (thingsB l) := by
  unfold spec_l1ThingsOk.f thingsB
  refine Ev.prop (fun h => Ev.ret (by rw [show decide (l.length ≤ 8) = false from decide_eq_false (by omega)]; rfl)) (fun h => ?_)
  rw [show decide (l.length ≤ 8) = true from decide_eq_true (by omega), Bool.true_and]
  have hl : l.length ≤ 9223372036854775807 := by omega
  refine Ev.loopAll (f := fun k i => spec_l1ThingsOk.l0 k l (i : Int)) (P := thingsP l) l.length
    (by refine Ev.step (fun k => spec_l1ThingsOk.l0.eq_2 l _ k) ?_
        exact Ev.neg (by omega) (Ev.ret rfl))
    (fun i r hi hp H => by
      simp only [thingsP, Bool.and_eq_true] at hp
      refine Ev.step (fun k => spec_l1ThingsOk.l0.eq_2 l _ k) ?_
      refine Ev.pos (by omega) (Ev.pos (by omega) (Ev.bind (spec_l1NameOk_ev _) ?_))
      rw [rdS_cast, hp.1]
      refine Ev.pos rfl (ahead_ev hi hl (fun _ => ?_) (fun h => by rw [hp.2] at h; cases h))
      rw [wrap_up hi hl]
      exact H)
    (fun i hi hp => by
      refine Ev.step (fun k => spec_l1ThingsOk.l0.eq_2 l _ k) ?_
      refine Ev.pos (by omega) (Ev.pos (by omega) (Ev.bind (spec_l1NameOk_ev _) ?_))
      rw [rdS_cast]
      refine Ev.test _ (fun h1 => ahead_ev hi hl (fun h2 => ?_) (fun h => Ev.ret rfl)) (fun _ => Ev.ret rfl)
      simp only [thingsP, h1, h2, Bool.and_true] at hp
      cases hp) 0 (by omega)
theorem spec_l1Share_ev (a b : List ByteArray) (ha : a.length ≤ 9223372036854775807) (hb : b.length ≤ 9223372036854775807) : Ev (fun k => spec_l1Share.f k a b) (shareB a b) := by
  unfold spec_l1Share.f
  have E := Ev.loopAny (f := fun k i => spec_l1Share.l0 k a b (i : Int)) (P := fun j => hasS b (a.getD j ByteArray.empty)) a.length
    (by refine Ev.step (fun k => spec_l1Share.l0.eq_2 a b _ k) ?_
        exact Ev.neg (by omega) (Ev.ret rfl))
    (fun i r hi hp H => by
      refine Ev.step (fun k => spec_l1Share.l0.eq_2 a b _ k) ?_
      refine Ev.pos (by omega) (Ev.pos (by omega) (Ev.bind (spec_l1Has_ev b _ hb) ?_))
      rw [rdS_cast, wrap_up hi ha]
      exact Ev.neg (by rw [show hasS b (gS a i) = false from hp]; simp) H)
    (fun i hi hp => by
      refine Ev.step (fun k => spec_l1Share.l0.eq_2 a b _ k) ?_
      refine Ev.pos (by omega) (Ev.pos (by omega) (Ev.bind (spec_l1Has_ev b _ hb) ?_))
      rw [rdS_cast]
      exact Ev.pos hp (Ev.ret rfl)) 0 (by omega)
  exact Ev.sub E (anyR_list (hasS b) ByteArray.empty a)
end Go.Proofs.Ytaofjgnhapnndaa.Q
namespace Go.Proofs.Ytaofjgnhapnndaa.Q
open Go.RowKit Go.Proofs.YtaofjgnhapnndaaW.PrintWords Go.Proofs.YtaofjgnhapnndaaW.PrintLast Go.Proofs.YtaofjgnhapnndaaW.PrintMore
set_option linter.unusedVariables false
set_option linter.unusedSimpArgs false
abbrev LB := S94
abbrev IB := S56
def toB (b : LB) : IB := ⟨b.f0, b.f1, b.f2⟩
def gB (l : List IB) (i : Nat) : IB := l.getD i z56
def gL (l : List LB) (i : Nat) : LB := l.getD i z94
theorem rdB_cast (l : List IB) (i : Nat) : rd_T56 l (i : Int) = gB l i := by unfold rd_T56 gB; rw [Int.toNat_natCast]
theorem rdL_cast (l : List LB) (i : Nat) : rd_T94 l (i : Int) = gL l i := by unfold rd_T94 gL; rw [Int.toNat_natCast]
theorem getD_lt {α : Type} (l : List α) (z : α) {i : Nat} (h : i < l.length) : l.getD i z = l[i] := by rw [List.getD_eq_getElem?_getD, List.getElem?_eq_getElem h]; rfl
def sumS (l : List ByteArray) : Nat := (l.map ByteArray.size).sum
def wS (l : List ByteArray) : Nat := l.length + sumS l
def wL (b : LB) : Nat := b.f0.size + wS b.f1 + wS b.f2
def sumL (l : List LB) : Nat := (l.map wL).sum
def wBook (ts : List ByteArray) (bs : List LB) : Nat := wS ts + (bs.length + sumL bs)
def left (n : Nat) (a : Int) : Int := if (n : Int) ≤ a then a - n else -1
theorem szStringS_go (l : List ByteArray) (hl : l.length ≤ 9223372036854775807) (hs : ∀ s ∈ l, s.size ≤ 9223372036854775807) : ∀ (d i : Nat) (a : Int), l.length - i = d → i ≤ l.length → 0 ≤ a → a ≤ 9223372036854775807 →
    Ev (fun k => laws_szStringS.l0 k l a (i : Int)) (left (sumS (l.drop i)) a) := by
  intro d
  induction d with
  | zero =>
    intro i a hd hi h0 h1
    refine Ev.step (fun k => laws_szStringS.l0.eq_2 l a _ k) ?_
    refine Ev.neg (by omega) (Ev.ret ?_)
    rw [List.drop_eq_nil_of_le (by omega)]
    simp [sumS, left, h0]
  | succ d ih =>
    intro i a hd hi h0 h1
    have hlt : i < l.length := by omega
    have hz : l[i].size ≤ 9223372036854775807 := hs _ (List.getElem_mem hlt)
    refine Ev.step (fun k => laws_szStringS.l0.eq_2 l a _ k) ?_
    refine Ev.pos (by omega) (Ev.pos (by omega) ?_)
    rw [rdS_cast, show gS l i = l[i] from getD_lt l _ hlt, wrap_sub h1 h0 (by omega) (by omega), wrap_up hlt hl]
    have hsum : sumS (l.drop i) = l[i].size + sumS (l.drop (i + 1)) := by rw [List.drop_eq_getElem_cons hlt]; simp only [sumS, List.map_cons, List.sum_cons]
    rw [hsum]
    refine Ev.prop (fun h => Ev.ret ?_) (fun h => ?_)
    · unfold left; rw [if_neg (by omega)]
    · refine Ev.sub (ih (i + 1) (a - l[i].size) (by omega) (by omega) (by omega) (by omega)) ?_
      unfold left
      by_cases h2 : (((l[i].size + sumS (l.drop (i + 1)) : Nat)) : Int) ≤ a
      · rw [if_pos h2, if_pos (by omega)]; omega
      · rw [if_neg h2, if_neg (by omega)]
theorem szStringS_ev (l : List ByteArray) (a : Int) (hl : l.length ≤ 9223372036854775807) (hs : ∀ s ∈ l, s.size ≤ 9223372036854775807) (h0 : 0 ≤ a) (h1 : a ≤ 9223372036854775807) : Ev (fun k => laws_szStringS.f k l a) (left (wS l) a) := by
  unfold laws_szStringS.f
  rw [wrap_sub h1 h0 (by omega) (by omega)]
  refine Ev.prop (fun h => Ev.ret ?_) (fun h => ?_)
  · unfold left wS; rw [if_neg (by omega)]
  · refine Ev.sub (szStringS_go l hl hs l.length 0 (a - l.length) (by omega) (by omega) (by omega) (by omega)) ?_
    rw [List.drop_zero]
    unfold left wS
    by_cases h2 : (((l.length + sumS l : Nat)) : Int) ≤ a
    · rw [if_pos h2, if_pos (by omega)]; omega
    · rw [if_neg h2, if_neg (by omega)]
def LBok (b : LB) : Prop := b.f0.size ≤ 9223372036854775807 ∧ (b.f1.length ≤ 9223372036854775807 ∧ ∀ s ∈ b.f1, s.size ≤ 9223372036854775807) ∧ (b.f2.length ≤ 9223372036854775807 ∧ ∀ s ∈ b.f2, s.size ≤ 9223372036854775807)
theorem left_neg {n : Nat} {a : Int} (h : left n a < 0) : ¬ (n : Int) ≤ a := by unfold left at h; intro h2; rw [if_pos h2] at h; omega
theorem left_pos {n : Nat} {a : Int} (h : ¬ left n a < 0) : (n : Int) ≤ a ∧ left n a = a - n := by
  unfold left at h ⊢
  by_cases h2 : (n : Int) ≤ a
  · exact ⟨h2, if_pos h2⟩
  · rw [if_neg h2] at h; omega
theorem szShareBatch_ev (b : LB) (a : Int) (hb : LBok b) (h0 : 0 ≤ a) (h1 : a ≤ 9223372036854775807) : Ev (fun k => laws_szShareBatch.f k b.f0 b.f1 b.f2 a) (left (wL b) a) := by
  obtain ⟨z0, ⟨z1, z2⟩, z3, z4⟩ := hb
  unfold laws_szShareBatch.f
  rw [wrap_sub h1 h0 (by omega) (by omega)]
  refine Ev.prop (fun h => Ev.ret ?_) (fun h => ?_)
  · unfold left wL; rw [if_neg (by omega)]
  · refine Ev.bind (szStringS_ev b.f1 _ z1 z2 (by omega) (by omega)) ?_
    refine Ev.prop (fun h2 => Ev.ret ?_) (fun h2 => ?_)
    · have := left_neg h2; unfold left wL; rw [if_neg (by omega)]
    · obtain ⟨h3, h4⟩ := left_pos h2
      rw [h4]
      refine Ev.bind (szStringS_ev b.f2 _ z3 z4 (by omega) (by omega)) ?_
      refine Ev.prop (fun h5 => Ev.ret ?_) (fun h5 => Ev.ret ?_)
      · have := left_neg h5; unfold left wL; rw [if_neg (by omega)]
      · obtain ⟨h6, h7⟩ := left_pos h5
        rw [h7]; unfold left wL; rw [if_pos (by omega)]; omega
theorem szShareBatchS_go (l : List LB) (hl : l.length ≤ 9223372036854775807) (hs : ∀ s ∈ l, LBok s) : ∀ (d i : Nat) (a : Int), l.length - i = d → i ≤ l.length → 0 ≤ a → a ≤ 9223372036854775807 →
    Ev (fun k => laws_szShareBatchS.l0 k l a (i : Int)) (left (sumL (l.drop i)) a) := by
  intro d
  induction d with
  | zero =>
    intro i a hd hi h0 h1
    refine Ev.step (fun k => laws_szShareBatchS.l0.eq_2 l a _ k) ?_
    refine Ev.neg (by omega) (Ev.ret ?_)
    rw [List.drop_eq_nil_of_le (by omega)]
    simp [sumL, left, h0]
  | succ d ih =>
    intro i a hd hi h0 h1
    have hlt : i < l.length := by omega
    refine Ev.step (fun k => laws_szShareBatchS.l0.eq_2 l a _ k) ?_
    refine Ev.pos (by omega) (Ev.pos (by omega) ?_)
    rw [rdL_cast, show gL l i = l[i] from getD_lt l _ hlt, wrap_up hlt hl]
    have hsum : sumL (l.drop i) = wL l[i] + sumL (l.drop (i + 1)) := by rw [List.drop_eq_getElem_cons hlt]; simp only [sumL, List.map_cons, List.sum_cons]
    rw [hsum]
    refine Ev.bind (szShareBatch_ev l[i] a (hs _ (List.getElem_mem hlt)) h0 h1) ?_
    refine Ev.prop (fun h => Ev.ret ?_) (fun h => ?_)
    · have := left_neg h; unfold left; rw [if_neg (by omega)]
    · obtain ⟨h2, h3⟩ := left_pos h
      rw [h3]
      refine Ev.sub (ih (i + 1) (a - wL l[i]) (by omega) (by omega) (by omega) (by omega)) ?_
      unfold left
      by_cases h4 : (((wL l[i] + sumL (l.drop (i + 1)) : Nat)) : Int) ≤ a
      · rw [if_pos h4, if_pos (by omega)]; omega
      · rw [if_neg h4, if_neg (by omega)]
theorem szShareBatchS_ev (l : List LB) (a : Int) (hl : l.length ≤ 9223372036854775807) (hs : ∀ s ∈ l, LBok s) (h0 : 0 ≤ a) (h1 : a ≤ 9223372036854775807) : Ev (fun k => laws_szShareBatchS.f k l a) (left (l.length + sumL l) a) := by
  unfold laws_szShareBatchS.f
  rw [wrap_sub h1 h0 (by omega) (by omega)]
  refine Ev.prop (fun h => Ev.ret ?_) (fun h => ?_)
  · unfold left; rw [if_neg (by omega)]
  · refine Ev.sub (szShareBatchS_go l hl hs l.length 0 (a - l.length) (by omega) (by omega) (by omega) (by omega)) ?_
    rw [List.drop_zero]
    unfold left
    by_cases h2 : (((l.length + sumL l : Nat)) : Int) ≤ a
    · rw [if_pos h2, if_pos (by omega)]; omega
    · rw [if_neg h2, if_neg (by omega)]
def Inok (ts : List ByteArray) (bs : List LB) : Prop := (ts.length ≤ 9223372036854775807 ∧ ∀ s ∈ ts, s.size ≤ 9223372036854775807) ∧ bs.length ≤ 9223372036854775807 ∧ ∀ b ∈ bs, LBok b
theorem szShareBook_ev (ts : List ByteArray) (bs : List LB) (a : Int) (hi : Inok ts bs) (h0 : 0 ≤ a) (h1 : a ≤ 9223372036854775807) : Ev (fun k => laws_szShareBook.f k ts bs a) (left (wBook ts bs) a) := by
  obtain ⟨⟨z1, z2⟩, z3, z4⟩ := hi
  unfold laws_szShareBook.f
  refine Ev.bind (szStringS_ev ts a z1 z2 h0 h1) ?_
  refine Ev.prop (fun h2 => Ev.ret ?_) (fun h2 => ?_)
  · have := left_neg h2; unfold left wBook; rw [if_neg (by omega)]
  · obtain ⟨h3, h4⟩ := left_pos h2
    rw [h4]
    refine Ev.bind (szShareBatchS_ev bs _ z3 z4 (by omega) (by omega)) ?_
    refine Ev.prop (fun h5 => Ev.ret ?_) (fun h5 => Ev.ret ?_)
    · have := left_neg h5; unfold left wBook; rw [if_neg (by omega)]
    · obtain ⟨h6, h7⟩ := left_pos h5
      rw [h7]; unfold left wBook; rw [if_pos (by omega)]; omega
theorem set_take {α : Type} (x l : List α) (i : Nat) (hi : i < l.length) (hx : x.length = l.length) (h : x.take i = l.take i) : (x.set i l[i]).take (i + 1) = l.take (i + 1) := by
  rw [List.take_succ_eq_append_getElem (by simp; omega), List.take_succ_eq_append_getElem hi, List.getElem_set_self, List.take_set_of_le (Nat.le_refl _), h]
theorem toStringS_ev (l : List ByteArray) (hl : l.length ≤ 17592186044416) : Ev (fun k => laws_toStringS.f k l) l := by
  unfold laws_toStringS.f
  refine Ev.pos (by omega) (Ev.pos (by omega) ?_)
  have go : ∀ (d i : Nat) (x : List ByteArray), l.length - i = d → i ≤ l.length → x.length = l.length → x.take i = l.take i → Ev (fun k => laws_toStringS.l0 k l x (i : Int)) l := by
    intro d
    induction d with
    | zero =>
      intro i x hd hi hx h
      refine Ev.step (fun k => laws_toStringS.l0.eq_2 l x _ k) ?_
      refine Ev.neg (by omega) (Ev.ret ?_)
      rwa [List.take_of_length_le (by omega), List.take_of_length_le (by omega)] at h
    | succ d ih =>
      intro i x hd hi hx h
      have hlt : i < l.length := by omega
      refine Ev.step (fun k => laws_toStringS.l0.eq_2 l x _ k) ?_
      refine Ev.pos (by omega) (Ev.pos (by omega) (Ev.pos (by omega) ?_))
      rw [rdS_cast, show gS l i = l[i] from getD_lt l _ hlt, wrap_up hlt (by omega), Int.toNat_natCast]
      exact ih (i + 1) _ (by omega) (by omega) (by simp [hx]) (set_take x l i hlt hx h)
  exact go l.length 0 _ (by omega) (by omega) (by simp) (by simp)
theorem toShareBatch_ev (b : LB) (h1 : b.f1.length ≤ 17592186044416) (h2 : b.f2.length ≤ 17592186044416) : Ev (fun k => laws_toShareBatch.f k b.f0 b.f1 b.f2) (b.f0, b.f1, b.f2) := by
  unfold laws_toShareBatch.f
  exact Ev.bind (toStringS_ev b.f1 h1) (Ev.bind (toStringS_ev b.f2 h2) (Ev.ret rfl))
theorem toShareBatchS_ev (l : List LB) (hl : l.length ≤ 4398046511104) (hs : ∀ b ∈ l, b.f1.length ≤ 17592186044416 ∧ b.f2.length ≤ 17592186044416) : Ev (fun k => laws_toShareBatchS.f k l) (l.map toB) := by
  unfold laws_toShareBatchS.f
  refine Ev.pos (by omega) (Ev.pos (by omega) ?_)
  have go : ∀ (d i : Nat) (x : List IB), l.length - i = d → i ≤ l.length → x.length = l.length → x.take i = (l.map toB).take i → Ev (fun k => laws_toShareBatchS.l0 k l x (i : Int)) (l.map toB) := by
    intro d
    induction d with
    | zero =>
      intro i x hd hi hx h
      refine Ev.step (fun k => laws_toShareBatchS.l0.eq_2 l x _ k) ?_
      refine Ev.neg (by omega) (Ev.ret ?_)
      rwa [List.take_of_length_le (by omega), List.take_of_length_le (by simp; omega)] at h
    | succ d ih =>
      intro i x hd hi hx h
      have hlt : i < l.length := by omega
      refine Ev.step (fun k => laws_toShareBatchS.l0.eq_2 l x _ k) ?_
      refine Ev.pos (by omega) (Ev.pos (by omega) ?_)
      rw [rdL_cast, show gL l i = l[i] from getD_lt l _ hlt, wrap_up hlt (by omega), Int.toNat_natCast]
      refine Ev.bind (toShareBatch_ev l[i] (hs _ (List.getElem_mem hlt)).1 (hs _ (List.getElem_mem hlt)).2) ?_
      refine Ev.pos (by omega) ?_
      refine ih (i + 1) _ (by omega) (by omega) (by simp [hx]) ?_
      have := set_take x (l.map toB) i (by simpa using hlt) (by simpa using hx) h
      rwa [List.getElem_map] at this
  exact go l.length 0 _ (by omega) (by omega) (by simp) (by simp)
theorem toShareBook_ev (ts : List ByteArray) (bs : List LB) (h1 : ts.length ≤ 17592186044416) (h2 : bs.length ≤ 4398046511104) (h3 : ∀ b ∈ bs, b.f1.length ≤ 17592186044416 ∧ b.f2.length ≤ 17592186044416) : Ev (fun k => laws_toShareBook.f k ts bs) (ts, bs.map toB) := by
  unfold laws_toShareBook.f
  exact Ev.bind (toStringS_ev ts h1) (Ev.bind (toShareBatchS_ev bs h2 h3) (Ev.ret rfl))
theorem eqStringS_ev (l : List ByteArray) (hl : l.length ≤ 9223372036854775807) : Ev (fun k => laws_eqStringS.f k l l) true := by
  unfold laws_eqStringS.f
  refine Ev.pos rfl ?_
  exact Ev.loop (f := fun k i => laws_eqStringS.l0 k l l (i : Int)) (val := fun _ => true) l.length
    (by refine Ev.step (fun k => laws_eqStringS.l0.eq_2 l l _ k) ?_
        exact Ev.neg (by omega) (Ev.ret rfl))
    (fun i hi H => by
      refine Ev.step (fun k => laws_eqStringS.l0.eq_2 l l _ k) ?_
      refine Ev.pos (by omega) (Ev.pos (by omega) (Ev.pos (by omega) (Ev.pos rfl ?_)))
      rw [wrap_up hi hl]
      exact H) 0 (by omega)
theorem eqShareBatch_ev (b : IB) (h1 : b.f1.length ≤ 9223372036854775807) (h2 : b.f2.length ≤ 9223372036854775807) : Ev (fun k => laws_eqShareBatch.f k b.f0 b.f1 b.f2 b.f0 b.f1 b.f2) true := by
  unfold laws_eqShareBatch.f
  refine Ev.pos rfl (Ev.bind (eqStringS_ev _ h1) (Ev.pos rfl (Ev.bind (eqStringS_ev _ h2) (Ev.pos rfl (Ev.ret rfl)))))
theorem eqShareBatchS_ev (l : List IB) (hl : l.length ≤ 9223372036854775807) (hs : ∀ b ∈ l, b.f1.length ≤ 9223372036854775807 ∧ b.f2.length ≤ 9223372036854775807) : Ev (fun k => laws_eqShareBatchS.f k l l) true := by
  unfold laws_eqShareBatchS.f
  refine Ev.pos rfl ?_
  exact Ev.loop (f := fun k i => laws_eqShareBatchS.l0 k l l (i : Int)) (val := fun _ => true) l.length
    (by refine Ev.step (fun k => laws_eqShareBatchS.l0.eq_2 l l _ k) ?_
        exact Ev.neg (by omega) (Ev.ret rfl))
    (fun i hi H => by
      refine Ev.step (fun k => laws_eqShareBatchS.l0.eq_2 l l _ k) ?_
      refine Ev.pos (by omega) (Ev.pos (by omega) (Ev.pos (by omega) ?_))
      rw [rdB_cast, show gB l i = l[i] from getD_lt l _ hi, wrap_up hi hl]
      exact Ev.bind (eqShareBatch_ev l[i] (hs _ (List.getElem_mem hi)).1 (hs _ (List.getElem_mem hi)).2) (Ev.pos rfl H)) 0 (by omega)
theorem eqShareBook_ev (ts : List ByteArray) (bs : List IB) (h1 : ts.length ≤ 9223372036854775807) (h2 : bs.length ≤ 9223372036854775807) (h3 : ∀ b ∈ bs, b.f1.length ≤ 9223372036854775807 ∧ b.f2.length ≤ 9223372036854775807) : Ev (fun k => laws_eqShareBook.f k ts bs ts bs) true := by
  unfold laws_eqShareBook.f
  exact Ev.bind (eqStringS_ev ts h1) (Ev.pos rfl (Ev.bind (eqShareBatchS_ev bs h2 h3) (Ev.pos rfl (Ev.ret rfl))))
end Go.Proofs.Ytaofjgnhapnndaa.Q
namespace Go.Proofs.Ytaofjgnhapnndaa.Q
open Go.RowKit Go.Proofs.YtaofjgnhapnndaaW.PrintWords Go.Proofs.YtaofjgnhapnndaaW.PrintLast Go.Proofs.YtaofjgnhapnndaaW.PrintMore
set_option linter.unusedVariables false
set_option linter.unusedSimpArgs false
def Bok (bs : List IB) : Prop := ∀ b ∈ bs, b.f1.length ≤ 9223372036854775807 ∧ b.f2.length ≤ 9223372036854775807
theorem Bok.at_ {bs : List IB} (h : Bok bs) {i : Nat} (hi : i < bs.length) : (gB bs i).f1.length ≤ 9223372036854775807 ∧ (gB bs i).f2.length ≤ 9223372036854775807 := by
  rw [show gB bs i = bs[i] from getD_lt bs _ hi]; exact h _ (List.getElem_mem hi)
def batchP (ts : List ByteArray) (bs : List IB) (i : Nat) : Bool :=
  nameB (gB bs i).f0 && ((decide (i = 0) || ltB (gB bs (i - 1)).f0 (gB bs i).f0) && (namesB (gB bs i).f2 ts && namesB (gB bs i).f1 (gB bs i).f2))
def freeP (bs : List IB) (i : Nat) : Bool := allR (fun q => !shareB (gB bs i).f1 (gB bs q).f1) i 0
def bookB (ts : List ByteArray) (bs : List IB) : Bool := thingsB ts && (decide (bs.length ≤ 5) && allR (fun i => batchP ts bs i && freeP bs i) bs.length 0)
theorem aheadB_ev {α : Type} {bs : List IB} {i : Nat} (hi : i < bs.length) (hl : bs.length ≤ 9223372036854775807) {a b : Nat → Option α} {r s : α} (H1 : Ev a r) (H2 : Ev b s) :
    Ev (fun k => if (i : Int) > 0 then (if 0 ≤ (wrap64 ((i : Int) - 1)) then (if (wrap64 ((i : Int) - 1)) < (bs.length : Int) then (if ((Op.bytesLess (((rd_T56 bs (wrap64 ((i : Int) - 1))).f0).toList) (((rd_T56 bs (i : Int)).f0).toList)) = true) then a k else b k) else none) else none) else a k)
      (if (decide (i = 0) || ltB (gB bs (i - 1)).f0 (gB bs i).f0) = true then r else s) := by
  by_cases h0 : i = 0
  · rw [if_pos (by simp [h0])]; exact Ev.neg (by omega) H1
  · rw [wrap_down (by omega) (by omega), rdB_cast, rdB_cast, show (decide (i = 0) || ltB (gB bs (i - 1)).f0 (gB bs i).f0) = ltB (gB bs (i - 1)).f0 (gB bs i).f0 from by simp [h0]]
    refine Ev.pos (by omega) (Ev.pos (by omega) (Ev.pos (by omega) (Ev.test _ (fun h => ?_) (fun h => ?_))))
    · rw [if_pos (show ltB (gB bs (i - 1)).f0 (gB bs i).f0 = true from h)]; exact H1
    · rw [if_neg (by rw [show ltB (gB bs (i - 1)).f0 (gB bs i).f0 = false from h]; simp)]; exact H2
theorem spec_ShareBookOk_ev (ts : List ByteArray) (bs : List IB) (ht : ts.length ≤ 9223372036854775807) (hl : bs.length ≤ 9223372036854775807) (hb : Bok bs) : Ev (fun k => spec_ShareBookOk.f k ts bs) (bookB ts bs) := by
  unfold spec_ShareBookOk.f bookB
  have loop : Ev (fun k => spec_ShareBookOk.l0 k ((0 : Nat) : Int) ts bs) (allR (fun i => batchP ts bs i && freeP bs i) bs.length 0) := by
    refine Ev.loop (f := fun k i => spec_ShareBookOk.l0 k (i : Int) ts bs) (val := allR (fun i => batchP ts bs i && freeP bs i) bs.length) bs.length ?_ ?_ 0 (by omega)
    · rw [allR_end]
      refine Ev.step (fun k => spec_ShareBookOk.l0.eq_2 _ ts bs k) ?_
      exact Ev.neg (by omega) (Ev.ret rfl)
    · intro i hi H
      rw [allR_step _ hi]
      generalize allR (fun i => batchP ts bs i && freeP bs i) bs.length (i + 1) = r at H
      obtain ⟨b1, b2⟩ := hb.at_ hi
      have inner : Ev (fun k => spec_ShareBookOk.l1 k (i : Int) ((0 : Nat) : Int) ts bs (gB bs i).f0 (gB bs i).f1 (gB bs i).f2) (freeP bs i && r) := by
        refine Ev.loop (f := fun k j => spec_ShareBookOk.l1 k (i : Int) (j : Int) ts bs (gB bs i).f0 (gB bs i).f1 (gB bs i).f2) (val := fun j => allR (fun q => !shareB (gB bs i).f1 (gB bs q).f1) i j && r) i ?_ ?_ 0 (by omega)
        · simp only [allR_end, Bool.true_and]
          refine Ev.step (fun k => spec_ShareBookOk.l1.eq_2 _ _ ts bs _ _ _ k) ?_
          refine Ev.neg (by omega) ?_
          rw [wrap_up hi hl]; exact H
        · intro j hj H2
          simp only [allR_step (fun q => !shareB (gB bs i).f1 (gB bs q).f1) hj]
          refine Ev.step (fun k => spec_ShareBookOk.l1.eq_2 _ _ ts bs _ _ _ k) ?_
          refine Ev.pos (by omega) (Ev.pos (by omega) (Ev.pos (by omega) ?_))
          rw [rdB_cast, wrap_up hj (by omega)]
          refine Ev.bind (spec_l1Share_ev _ _ b1 (hb.at_ (show j < bs.length by omega)).1) ?_
          refine Ev.test _ (fun h => Ev.ret (by rw [h]; rfl)) (fun h => Ev.sub H2 (by rw [h]; rfl))
      have j2 : ∀ b, Ev (fun k => spec_ShareBookOk.j2 k (i : Int) b ts bs (gB bs i).f0 (gB bs i).f1 (gB bs i).f2) (!b && (freeP bs i && r)) := by
        intro b
        refine Ev.step (fun k => spec_ShareBookOk.j2.eq_2 _ _ ts bs _ _ _ k) ?_
        refine Ev.test _ (fun h => Ev.ret (by rw [h]; rfl)) (fun h => Ev.sub inner (by rw [h]; rfl))
      have X : Ev (fun k => (spec_l1NamesOk.f k (gB bs i).f2 ts).bind fun t => if t = true then ((spec_l1NamesOk.f k (gB bs i).f1 (gB bs i).f2).bind fun t2 => spec_ShareBookOk.j2 k (i : Int) (!t2) ts bs (gB bs i).f0 (gB bs i).f1 (gB bs i).f2) else spec_ShareBookOk.j2 k (i : Int) true ts bs (gB bs i).f0 (gB bs i).f1 (gB bs i).f2)
          (namesB (gB bs i).f2 ts && namesB (gB bs i).f1 (gB bs i).f2 && (freeP bs i && r)) := by
        refine Ev.bind (spec_l1NamesOk_ev _ _ b2 ht) ?_
        refine Ev.test _ (fun h => Ev.bind (spec_l1NamesOk_ev _ _ b1 b2) (Ev.sub (j2 _) (by rw [h]; simp))) (fun h => Ev.sub (j2 _) (by rw [h]; simp))
      refine Ev.step (fun k => spec_ShareBookOk.l0.eq_2 _ ts bs k) ?_
      refine Ev.pos (by omega) (Ev.pos (by omega) (Ev.bind (spec_l1NameOk_ev _) ?_))
      have A := aheadB_ev hi hl X (j2 true)
      rw [rdB_cast] at *
      refine Ev.test _ (fun h => Ev.sub A ?_) (fun h => Ev.sub (j2 true) ?_)
      · simp only [batchP, h, Bool.true_and]
        cases (decide (i = 0) || ltB (gB bs (i - 1)).f0 (gB bs i).f0) <;> simp [Bool.and_assoc]
      · simp [batchP, h]
  have j0 : ∀ b, Ev (fun k => spec_ShareBookOk.j0 k b ts bs) (!b && allR (fun i => batchP ts bs i && freeP bs i) bs.length 0) := by
    intro b
    refine Ev.step (fun k => spec_ShareBookOk.j0.eq_2 _ ts bs k) ?_
    refine Ev.test _ (fun h => Ev.ret (by rw [h]; rfl)) (fun h => Ev.sub loop (by rw [h]; rfl))
  refine Ev.bind (spec_l1ThingsOk_ev ts) ?_
  refine Ev.test _ (fun h => Ev.sub (j0 _) ?_) (fun h => Ev.sub (j0 _) (by rw [h]; simp))
  rw [h, show (!decide ((bs.length : Int) > 5)) = decide (bs.length ≤ 5) from by rw [Bool.eq_iff_iff]; simp; omega]
  rfl
theorem things_all (ts : List ByteArray) : (decide (ts.length ≤ 8) && (namesB ts ts && !(ts.any fun s => !nameB s))) = thingsB ts := by
  unfold thingsB
  congr 1
  rw [Bool.eq_iff_iff, Bool.and_eq_true, namesB, allR_iff, allR_iff]
  have hany : ((!(ts.any fun s => !nameB s)) = true) ↔ ∀ s ∈ ts, nameB s = true := by simp
  rw [hany]
  constructor
  · rintro ⟨h1, h2⟩ j h0 hj
    have := h1 j h0 hj
    simp only [namesP, Bool.and_eq_true] at this
    simp only [thingsP, Bool.and_eq_true]
    exact ⟨h2 _ (by rw [show gS ts j = ts[j] from getD_lt ts _ hj]; exact List.getElem_mem hj), this.2⟩
  · intro h
    refine ⟨fun j h0 hj => ?_, fun s hs => ?_⟩
    · have := h j h0 hj
      simp only [thingsP, Bool.and_eq_true] at this
      simp only [namesP, Bool.and_eq_true]
      refine ⟨?_, this.2⟩
      unfold hasS
      rw [List.any_eq_true]
      exact ⟨gS ts j, by rw [show gS ts j = ts[j] from getD_lt ts _ hj]; exact List.getElem_mem hj, by simp⟩
    · obtain ⟨j, hj, rfl⟩ := List.getElem_of_mem hs
      have := h j (by omega) hj
      simp only [thingsP, Bool.and_eq_true] at this
      rw [← show gS ts j = ts[j] from getD_lt ts _ hj]
      exact this.1
theorem impl_ShareBookOk_ev (ts : List ByteArray) (bs : List IB) (ht : ts.length ≤ 9223372036854775807) (hl : bs.length ≤ 9223372036854775807) (hb : Bok bs) : Ev (fun k => impl_ShareBookOk.f k ts bs) (bookB ts bs) := by
  unfold impl_ShareBookOk.f bookB
  have loop : Ev (fun k => impl_ShareBookOk.l0 k bs (bs.length : Int) ((0 : Nat) : Int) ts bs) (allR (fun i => batchP ts bs i && freeP bs i) bs.length 0) := by
    refine Ev.loop (f := fun k i => impl_ShareBookOk.l0 k bs (bs.length : Int) (i : Int) ts bs) (val := allR (fun i => batchP ts bs i && freeP bs i) bs.length) bs.length ?_ ?_ 0 (by omega)
    · rw [allR_end]
      refine Ev.step (fun k => impl_ShareBookOk.l0.eq_2 bs _ _ ts bs k) ?_
      exact Ev.neg (by omega) (Ev.ret rfl)
    · intro i hi H
      rw [allR_step _ hi]
      generalize allR (fun i => batchP ts bs i && freeP bs i) bs.length (i + 1) = r at H
      obtain ⟨b1, b2⟩ := hb.at_ hi
      have inner : Ev (fun k => impl_ShareBookOk.l1 k bs (bs.length : Int) (i : Int) (bs.take i) ((bs.take i).length : Int) ((0 : Nat) : Int) ts bs (gB bs i).f0 (gB bs i).f1 (gB bs i).f2) (freeP bs i && r) := by
        have hlen : (bs.take i).length = i := by rw [List.length_take]; omega
        refine Ev.loop (f := fun k j => impl_ShareBookOk.l1 k bs (bs.length : Int) (i : Int) (bs.take i) ((bs.take i).length : Int) (j : Int) ts bs (gB bs i).f0 (gB bs i).f1 (gB bs i).f2) (val := fun j => allR (fun q => !shareB (gB bs i).f1 (gB bs q).f1) i j && r) i ?_ ?_ 0 (by omega)
        · simp only [allR_end, Bool.true_and]
          refine Ev.step (fun k => impl_ShareBookOk.l1.eq_2 _ _ _ _ _ _ ts bs _ _ _ k) ?_
          refine Ev.neg (by rw [hlen]; omega) ?_
          rw [wrap_up hi hl]; exact H
        · intro j hj H2
          simp only [allR_step (fun q => !shareB (gB bs i).f1 (gB bs q).f1) hj]
          refine Ev.step (fun k => impl_ShareBookOk.l1.eq_2 _ _ _ _ _ _ ts bs _ _ _ k) ?_
          refine Ev.pos (by rw [hlen]; omega) (Ev.pos (by omega) (Ev.pos (by rw [hlen]; omega) ?_))
          rw [rdB_cast, wrap_up hj (by omega), show gB (bs.take i) j = gB bs j from by unfold gB; rw [List.getD_eq_getElem?_getD, List.getElem?_take_of_lt hj, List.getD_eq_getElem?_getD]]
          simp only [impl_common.f, Option.bind_some]
          refine Ev.test _ (fun h => Ev.ret (by rw [show shareB (gB bs i).f1 (gB bs j).f1 = true from h]; rfl)) (fun h => Ev.sub H2 (by rw [show shareB (gB bs i).f1 (gB bs j).f1 = false from h]; rfl))
      have j2 : ∀ b, Ev (fun k => impl_ShareBookOk.j2 k (i : Int) bs (bs.length : Int) (i : Int) b ts bs (gB bs i).f0 (gB bs i).f1 (gB bs i).f2) (!b && (freeP bs i && r)) := by
        intro b
        refine Ev.step (fun k => impl_ShareBookOk.j2.eq_2 _ _ _ _ _ ts bs _ _ _ k) ?_
        refine Ev.test _ (fun h => Ev.ret (by rw [h]; rfl)) (fun h => Ev.pos (by omega) (Ev.pos (by omega) ?_))
        rw [Int.toNat_natCast]
        simp only [Option.bind_some]
        exact Ev.sub inner (by rw [h]; rfl)
      have X : Ev (fun k => (impl_of.f k (gB bs i).f2 ts).bind fun t => if t = true then ((impl_of.f k (gB bs i).f1 (gB bs i).f2).bind fun t2 => impl_ShareBookOk.j2 k (i : Int) bs (bs.length : Int) (i : Int) (!t2) ts bs (gB bs i).f0 (gB bs i).f1 (gB bs i).f2) else impl_ShareBookOk.j2 k (i : Int) bs (bs.length : Int) (i : Int) true ts bs (gB bs i).f0 (gB bs i).f1 (gB bs i).f2)
          (namesB (gB bs i).f2 ts && namesB (gB bs i).f1 (gB bs i).f2 && (freeP bs i && r)) := by
        refine Ev.bind (impl_of_ev _ _ b2 ht) ?_
        refine Ev.test _ (fun h => Ev.bind (impl_of_ev _ _ b1 b2) (Ev.sub (j2 _) (by rw [h]; simp))) (fun h => Ev.sub (j2 _) (by rw [h]; simp))
      refine Ev.step (fun k => impl_ShareBookOk.l0.eq_2 _ _ _ ts bs k) ?_
      refine Ev.pos (by omega) (Ev.pos (by omega) (Ev.pos (by omega) (Ev.bind (name_ev _) ?_)))
      have A := aheadB_ev hi hl X (j2 true)
      rw [rdB_cast] at *
      refine Ev.test _ (fun h => Ev.sub A ?_) (fun h => Ev.sub (j2 true) ?_)
      · simp only [batchP, h, Bool.true_and]
        cases (decide (i = 0) || ltB (gB bs (i - 1)).f0 (gB bs i).f0) <;> simp [Bool.and_assoc]
      · simp [batchP, h]
  have j0 : ∀ b, Ev (fun k => impl_ShareBookOk.j0 k b ts bs) (!b && allR (fun i => batchP ts bs i && freeP bs i) bs.length 0) := by
    intro b
    refine Ev.step (fun k => impl_ShareBookOk.j0.eq_2 _ ts bs k) ?_
    refine Ev.test _ (fun h => Ev.ret (by rw [h]; rfl)) (fun h => Ev.sub loop (by rw [h]; rfl))
  rw [← things_all]
  refine Ev.prop (fun h => Ev.sub (j0 _) ?_) (fun h => Ev.prop (fun h2 => Ev.sub (j0 _) ?_) (fun h2 => Ev.bind (impl_of_ev ts ts ht ht) ?_))
  · rw [show decide (ts.length ≤ 8) = false from decide_eq_false (by omega)]; rfl
  · rw [show decide (bs.length ≤ 5) = false from decide_eq_false (by omega)]; simp
  · rw [show decide (bs.length ≤ 5) = true from decide_eq_true (by omega), show decide (ts.length ≤ 8) = true from decide_eq_true (by omega)]
    simp only [slices_ContainsFunc_string_string.f, Option.bind_some]
    refine Ev.test _ (fun h => Ev.sub (j0 _) (by rw [h]; simp)) (fun h => Ev.sub (j0 _) (by rw [h]; simp))
end Go.Proofs.Ytaofjgnhapnndaa.Q
namespace Go.Proofs.Ytaofjgnhapnndaa.Q
open Go.RowKit Go.Proofs.YtaofjgnhapnndaaW.PrintWords Go.Proofs.YtaofjgnhapnndaaW.PrintLast Go.Proofs.YtaofjgnhapnndaaW.PrintMore
set_option linter.unusedVariables false
set_option linter.unusedSimpArgs false
def findR (P : Nat → Bool) (n i : Nat) : Option Nat := (List.range' i (n - i)).find? P
theorem findR_end (P : Nat → Bool) (n : Nat) : findR P n n = none := by simp [findR]
theorem findR_step (P : Nat → Bool) {n i : Nat} (h : i < n) : findR P n i = if P i = true then some i else findR P n (i + 1) := by
  unfold findR; rw [show n - i = (n - (i + 1)) + 1 by omega, List.range'_succ, List.find?_cons]
  cases P i <;> rfl
def canP (bs : List IB) (at_ : Nat) (gone : List ByteArray) (q : Nat) : Bool := decide (q = at_) || (hasS gone (gB bs q).f0 || !shareB (gB bs q).f1 (gB bs at_).f2)
def canB (bs : List IB) (at_ : Nat) (gone : List ByteArray) : Bool := allR (canP bs at_ gone) bs.length 0
theorem spec_l2Can_ev (ts : List ByteArray) (bs : List IB) (at_ : Nat) (gone : List ByteArray) (hl : bs.length ≤ 9223372036854775807) (hb : Bok bs) (ha : at_ < bs.length) (hg : gone.length ≤ 9223372036854775807) : Ev (fun k => spec_l2Can.f k ts bs (at_ : Int) gone) (canB bs at_ gone) := by
  unfold spec_l2Can.f
  have b0 := hb.at_ ha
  refine Ev.loop (f := fun k i => spec_l2Can.l0 k (at_ : Int) gone (i : Int) ts bs) (val := allR (canP bs at_ gone) bs.length) bs.length ?_ ?_ 0 (by omega)
  · rw [allR_end]
    refine Ev.step (fun k => spec_l2Can.l0.eq_2 _ gone _ ts bs k) ?_
    exact Ev.neg (by omega) (Ev.ret rfl)
  · intro i hi H
    rw [allR_step _ hi]
    refine Ev.step (fun k => spec_l2Can.l0.eq_2 _ gone _ ts bs k) ?_
    refine Ev.pos (by omega) ?_
    rw [wrap_up hi hl, rdB_cast, rdB_cast]
    have bi := hb.at_ hi
    refine Ev.prop (fun h => Ev.sub H (by simp [canP, show i = at_ by omega])) (fun h => Ev.pos (by omega) (Ev.bind (spec_l1Has_ev gone _ hg) ?_))
    have hne : decide (i = at_) = false := decide_eq_false (by omega)
    refine Ev.test _ (fun h1 => Ev.sub H (by simp [canP, h1])) (fun h1 => Ev.pos (by omega) (Ev.pos (by omega) (Ev.bind (spec_l1Share_ev _ _ bi.1 b0.2) ?_)))
    refine Ev.test _ (fun h2 => Ev.ret (by simp [canP, h1, h2, hne])) (fun h2 => Ev.sub H (by simp [canP, h2]))
theorem impl_can_ev (ts : List ByteArray) (bs : List IB) (at_ : Nat) (gone : List ByteArray) (hl : bs.length ≤ 9223372036854775807) (ha : at_ < bs.length) (hg : gone.length ≤ 9223372036854775807) : Ev (fun k => impl_ShareBook_can.f k ts bs (at_ : Int) gone) (canB bs at_ gone) := by
  unfold impl_ShareBook_can.f
  refine Ev.loop (f := fun k i => impl_ShareBook_can.l0 k (at_ : Int) gone bs (bs.length : Int) (i : Int) ts bs) (val := allR (canP bs at_ gone) bs.length) bs.length ?_ ?_ 0 (by omega)
  · rw [allR_end]
    refine Ev.step (fun k => impl_ShareBook_can.l0.eq_2 _ gone bs _ _ ts bs k) ?_
    exact Ev.neg (by omega) (Ev.ret rfl)
  · intro i hi H
    rw [allR_step _ hi]
    refine Ev.step (fun k => impl_ShareBook_can.l0.eq_2 _ gone bs _ _ ts bs k) ?_
    refine Ev.pos (by omega) (Ev.pos (by omega) (Ev.pos (by omega) ?_))
    rw [wrap_up hi hl, rdB_cast, rdB_cast]
    refine Ev.prop (fun h => Ev.sub H (by simp [canP, show i = at_ by omega])) (fun h => Ev.bind (contains_ev gone _ hg) ?_)
    have hne : decide (i = at_) = false := decide_eq_false (by omega)
    refine Ev.test _ (fun h1 => Ev.sub H (by simp [canP, h1])) (fun h1 => Ev.pos (by omega) (Ev.pos (by omega) ?_))
    simp only [impl_common.f, Option.bind_some]
    refine Ev.test _ (fun h2 => Ev.ret (by simp [canP, h1, hne, show shareB (gB bs i).f1 (gB bs at_).f2 = true from h2])) (fun h2 => Ev.sub H (by simp [canP, show shareB (gB bs i).f1 (gB bs at_).f2 = false from h2]))
theorem book_five {ts : List ByteArray} {bs : List IB} (h : bookB ts bs = true) : bs.length ≤ 5 := by
  unfold bookB at h; simp only [Bool.and_eq_true, decide_eq_true_eq] at h; exact h.2.1
def nextP (bs : List IB) (gone : List ByteArray) (i : Nat) : Bool := !hasS gone (gB bs i).f0 && canB bs i gone
def nextB (bs : List IB) (gone : List ByteArray) : Option Nat := findR (nextP bs gone) bs.length 0
def orderGo (bs : List IB) : Nat → List ByteArray → List ByteArray × Bool
  | 0, gone => (gone, true)
  | d + 1, gone => match nextB bs gone with
    | none => ([], false)
    | some i => orderGo bs d (gone ++ [(gB bs i).f0])
def orderB (ts : List ByteArray) (bs : List IB) : List ByteArray × Bool := if bookB ts bs = true then orderGo bs bs.length [] else ([], false)
theorem findR_lt {P : Nat → Bool} {n i j : Nat} (h : findR P n i = some j) : i ≤ j ∧ j < n ∧ P j = true := by
  unfold findR at h
  have h1 := List.find?_some h
  have h2 := List.mem_of_find?_eq_some h
  rw [List.mem_range'_1] at h2
  exact ⟨by omega, by omega, h1⟩
theorem spec_l2Next_ev (ts : List ByteArray) (bs : List IB) (gone : List ByteArray) (hl : bs.length ≤ 9223372036854775807) (hb : Bok bs) (hg : gone.length ≤ 9223372036854775807) : Ev (fun k => spec_l2Next.f k ts bs gone) (((nextB bs gone).map fun (i : Nat) => (i : Int)).getD (-1)) := by
  unfold spec_l2Next.f nextB
  refine Ev.loop (f := fun k i => spec_l2Next.l0 k gone (i : Int) ts bs) (val := fun i => ((findR (nextP bs gone) bs.length i).map fun (i : Nat) => (i : Int)).getD (-1)) bs.length ?_ ?_ 0 (by omega)
  · refine Ev.step (fun k => spec_l2Next.l0.eq_2 gone _ ts bs k) (Ev.neg (by omega) (Ev.ret (by simp [findR_end])))
  · intro i hi H
    simp only [findR_step (nextP bs gone) hi]
    refine Ev.step (fun k => spec_l2Next.l0.eq_2 gone _ ts bs k) (Ev.pos (by omega) (Ev.pos (by omega) (Ev.bind (spec_l1Has_ev gone _ hg) ?_)))
    rw [rdB_cast, wrap_up hi hl]
    refine Ev.test _ (fun h => Ev.sub H (by simp [nextP, h])) (fun h => Ev.bind (spec_l2Can_ev ts bs i gone hl hb hi hg) ?_)
    refine Ev.test _ (fun h2 => Ev.ret (by simp [nextP, h, h2])) (fun h2 => Ev.sub H (by simp [nextP, h2]))
theorem spec_ShareOrder_ev (ts : List ByteArray) (bs : List IB) (ht : ts.length ≤ 9223372036854775807) (hl : bs.length ≤ 9223372036854775807) (hb : Bok bs) : Ev (fun k => spec_ShareOrder.f k ts bs) (orderB ts bs) := by
  unfold spec_ShareOrder.f orderB
  simp only [Option.bind_some]
  refine Ev.bind (spec_ShareBookOk_ev ts bs ht hl hb) (Ev.test _ (fun h => ?_) (fun h => Ev.ret (by simp [h])))
  have h5 := book_five h
  rw [if_pos h]
  have go : ∀ (d : Nat) (x : List ByteArray), x.length + d = bs.length → Ev (fun k => spec_ShareOrder.l0 k x ts bs) (orderGo bs d x) := by
    intro d
    induction d with
    | zero =>
      intro x hx
      exact Ev.step (fun k => spec_ShareOrder.l0.eq_2 x ts bs k) (Ev.neg (by omega) (Ev.ret rfl))
    | succ d ih =>
      intro x hx
      refine Ev.step (fun k => spec_ShareOrder.l0.eq_2 x ts bs k) (Ev.pos (by omega) (Ev.bind (spec_l2Next_ev ts bs x hl hb (by omega)) ?_))
      unfold orderGo
      cases hn : nextB bs x with
      | none => exact Ev.pos (by simp) (Ev.ret rfl)
      | some i =>
        have hi := (findR_lt hn).2.1
        simp only [Option.map_some, Option.getD_some]
        refine Ev.neg (by omega) (Ev.pos (by omega) (Ev.pos (by omega) (Ev.pos (by omega) ?_)))
        rw [rdB_cast]
        exact ih _ (by simp; omega)
  exact go bs.length [] (by simp)
theorem impl_ShareOrder_ev (ts : List ByteArray) (bs : List IB) (ht : ts.length ≤ 9223372036854775807) (hl : bs.length ≤ 9223372036854775807) (hb : Bok bs) : Ev (fun k => impl_ShareOrder.f k ts bs) (orderB ts bs) := by
  unfold impl_ShareOrder.f orderB
  refine Ev.bind (impl_ShareBookOk_ev ts bs ht hl hb) (Ev.test _ (fun h => ?_) (fun h => Ev.ret (by simp [h])))
  have h5 := book_five h
  rw [if_pos h]
  have go : ∀ (d : Nat) (x : List ByteArray), x.length + d = bs.length → Ev (fun k => impl_ShareOrder.l0 k x ts bs) (orderGo bs d x) := by
    intro d
    induction d with
    | zero =>
      intro x hx
      exact Ev.step (fun k => impl_ShareOrder.l0.eq_2 x ts bs k) (Ev.neg (by omega) (Ev.ret rfl))
    | succ d ih =>
      intro x hx
      refine Ev.step (fun k => impl_ShareOrder.l0.eq_2 x ts bs k) (Ev.pos (by omega) ?_)
      unfold orderGo nextB
      refine Ev.loop (f := fun k i => impl_ShareOrder.l1 k x (x.length : Int) bs (bs.length : Int) (i : Int) ts bs)
        (val := fun i => match findR (nextP bs x) bs.length i with | none => ([], false) | some i => orderGo bs d (x ++ [(gB bs i).f0])) bs.length ?_ ?_ 0 (by omega)
      · simp only [findR_end]
        exact Ev.step (fun k => impl_ShareOrder.l1.eq_2 x _ bs _ _ ts bs k) (Ev.neg (by omega) (Ev.pos rfl (Ev.ret rfl)))
      · intro i hi H
        simp only [findR_step (nextP bs x) hi]
        refine Ev.step (fun k => impl_ShareOrder.l1.eq_2 x _ bs _ _ ts bs k) (Ev.pos (by omega) (Ev.pos (by omega) (Ev.pos (by omega) (Ev.bind (contains_ev x _ (by omega)) ?_))))
        rw [rdB_cast, wrap_up hi hl]
        refine Ev.test _ (fun h1 => Ev.sub H (by simp [nextP, h1])) (fun h1 => Ev.bind (impl_can_ev ts bs i x hl hi (by omega)) ?_)
        refine Ev.test _ (fun h2 => Ev.pos (by omega) ?_) (fun h2 => Ev.sub H (by simp [nextP, h2]))
        simp only [Option.bind_some]
        refine Ev.neg (by simp; omega) (Ev.sub (ih _ (by simp; omega)) (by simp [nextP, h1, h2]))
  exact go bs.length [] (by simp)
def safeB (ts : List ByteArray) (bs : List IB) : Bool := (orderB ts bs).2
theorem spec_ShareSafe_ev (ts : List ByteArray) (bs : List IB) (ht : ts.length ≤ 9223372036854775807) (hl : bs.length ≤ 9223372036854775807) (hb : Bok bs) : Ev (fun k => spec_ShareSafe.f k ts bs) (safeB ts bs) :=
  Ev.bind (spec_ShareOrder_ev ts bs ht hl hb) (Ev.ret rfl)
theorem impl_ShareSafe_ev (ts : List ByteArray) (bs : List IB) (ht : ts.length ≤ 9223372036854775807) (hl : bs.length ≤ 9223372036854775807) (hb : Bok bs) : Ev (fun k => impl_ShareSafe.f k ts bs) (safeB ts bs) :=
  Ev.bind (impl_ShareOrder_ev ts bs ht hl hb) (Ev.ret rfl)
end Go.Proofs.Ytaofjgnhapnndaa.Q
namespace Go.Proofs.Ytaofjgnhapnndaa.Q
open Go.RowKit Go.Proofs.YtaofjgnhapnndaaW.PrintWords Go.Proofs.YtaofjgnhapnndaaW.PrintLast Go.Proofs.YtaofjgnhapnndaaW.PrintMore
set_option linter.unusedVariables false
set_option linter.unusedSimpArgs false
def idxI (p : ByteArray → Bool) (l : List IB) (i : Nat) : Int := ((findR (fun i => p (gB l i).f0) l.length i).map fun (i : Nat) => (i : Int)).getD (-1)
theorem idxI_end (p : ByteArray → Bool) (l : List IB) : idxI p l l.length = -1 := by unfold idxI; rw [findR_end]; rfl
theorem idxI_step (p : ByteArray → Bool) {l : List IB} {i : Nat} (h : i < l.length) : idxI p l i = if p (gB l i).f0 = true then (i : Int) else idxI p l (i + 1) := by
 unfold idxI; rw [findR_step _ h]; cases p (gB l i).f0 <;> rfl
def PredB (g : Nat) (lb : Array Value) (p : ByteArray → Bool) (w : World) : Prop :=
 ∀ (W : World) (s : ByteArray) (A1 : Option Addr) (n1 c1 : Nat) (A2 : Option Addr) (n2 c2 : Nat), Below w.heap.size w W → Calls Try.prog g (#[.agg #[.string s, .slice A1 n1 c1, .slice A2 n2 c2]] ++ lb) W fun e w' => e = .returned (.bool (p s)) ∧ Below w.heap.size w w'
set_option maxHeartbeats 2000000 in
theorem indexFuncB_any (g : Nat) (lb : Array Value) (eg : ∀ args w, (callFunc g args).run Try.prog w = .ok (.enter g args) w) (p : ByteArray → Bool) (A0 : Option Addr) (c0 : Nat) (l0 : List IB) (w : World)
  (hr0 : Kd.C k56 w A0 l0.length l0) (hp : PredB g lb p w) :
  Calls Try.prog 117 #[.slice A0 l0.length c0, .func (.func g) #[] lb] w fun e w' => e = .returned (.int .i64 (idxI p l0 0)) ∧ Below w.heap.size w w' := by
 have hbig := C_len hr0
 have HR0 := am hr0
 clear hr0
 have HP := am hp
 clear hp
 have hu := Try.underlying56
 go_enter Try.func117, Try.ntmps117
 go_wp2
 go_loopg [5, 8] l0.length (fun gg _ s8 wr => ∃ kk : Nat, kk ≤ l0.length ∧ l0.length - kk ≤ gg ∧ s8 = .int .i64 kk ∧ Aside0 (Below w.heap.size w wr) ∧ Aside0 (idxI p l0 0 = idxI p l0 kk))
 case atStart => exact ⟨0, Nat.zero_le _, by omega, rfl, ⟨Below.refl _ w⟩, ⟨rfl⟩⟩
 case round =>
  obtain ⟨kk, hkk, hg, rfl, BW, A⟩ := hrel
  by_cases hlt : kk < l0.length
  ·have hltz : (kk : Int) < (l0.length : Int) := by omega
   have e1 := A.out
   rw [idxI_step p hlt] at e1
   have E1 := am e1
   clear e1
   obtain ⟨ad, A1, c1, A2, c2, rfl, hx0, hx1, hx2, _, _, _, _⟩ := at_T56 HR0.1 (kk : Int) (by omega) (by omega)
   have hcall := HP.out wr (gB l0 kk).f0 A1 (rd_T56 l0 (kk : Int)).f1.length c1 A2 (rd_T56 l0 (kk : Int)).f2.length c2 BW.out
   rw [← rdB_cast] at hcall E1
   rw [Int.toNat_natCast] at hx0 hx1 hx2
   replace hx0 := (BW.out.cell (World.block_lt_of_cell? w _ hx0)).trans hx0
   replace hx1 := (BW.out.cell (World.block_lt_of_cell? w _ hx1)).trans hx1
   replace hx2 := (BW.out.cell (World.block_lt_of_cell? w _ hx2)).trans hx2
   generalize rd_T56 l0 (kk : Int) = y at hx0 hx1 hx2 hcall E1
   obtain ⟨y0, y1, y2⟩ := y
   cases hq : p y0 with
   | true =>
    rw [hq] at hcall
    have E2 : Aside0 (idxI p l0 0 = kk) := ⟨by rw [E1.out, if_pos hq]⟩
    clear hq
    go_wp2_with ((go_at_fn g; refine hcall.mono ?_; rintro e w' ⟨rfl, hb'⟩))
    go_ret
    exact ⟨by rw [E2.out]; rfl, hb'⟩
   | false =>
    rw [hq] at hcall
    have E2 : Aside0 (idxI p l0 0 = idxI p l0 (kk + 1)) := ⟨by rw [E1.out, if_neg (by simp [hq])]⟩
    clear hq
    go_wp2_with ((go_at_fn g; refine hcall.mono ?_; rintro e w' ⟨rfl, hb'⟩))
    go_roundg (l0.length - (kk + 1))
    case measure => omega
    case rel => exact ⟨kk + 1, by omega, by omega, by go_num, ⟨hb'⟩, E2⟩
  ·have hltz : ¬ (kk : Int) < (l0.length : Int) := by omega
   have hk2 : kk = l0.length := by omega
   have E2 : Aside0 (idxI p l0 0 = -1) := ⟨by rw [A.out, hk2, idxI_end]⟩
   subst hk2
   go_wp2
   go_ret
   exact ⟨by rw [E2.out]; rfl, BW.out⟩
theorem at1_any (s n : ByteArray) (A1 : Option Addr) (n1 c1 : Nat) (A2 : Option Addr) (n2 c2 : Nat) (gb : Nat) (W : World) (hg : gb < W.heap.size) (hcell : W.cell? ⟨gb, 0, none⟩ = some (.string n)) :
  Calls Try.prog 118 #[.agg #[.string s, .slice A1 n1 c1, .slice A2 n2 c2], .pointer (some ⟨gb, 0, none⟩)] W fun e w' => e = .returned (.bool (s.toList == n.toList)) ∧ Below W.heap.size W w' := by
 have hu := Try.underlying56
 have hne : gb ≠ W.heap.size := by omega
 go_enter Try.func118, Try.ntmps118
 go_wp2
 go_ret
 exact ⟨rfl, (Below.refl _ _).alloc (Nat.le_refl _) _⟩
def impl_ShareBook_at.f (l0_0 : List ByteArray) (l0_1 : List IB) (a1 : ByteArray) : Option (Int) := some (idxI (fun s => s.toList == a1.toList) l0_1 0)
theorem impl_ShareBook_at.calls (A0_0 : Option Addr) (c0_0 : Nat) (l0_0 : List ByteArray) (A0_1 : Option Addr) (c0_1 : Nat) (l0_1 : List IB) (a1 : ByteArray) (r : Int) (w : World) (hr0_0 : Kd.C Kd.string w A0_0 l0_0.length l0_0) (hc0_0 : l0_0.length ≤ c0_0) (hr0_1 : Kd.C k56 w A0_1 l0_1.length l0_1) (hc0_1 : l0_1.length ≤ c0_1) (h : impl_ShareBook_at.f l0_0 l0_1 a1 = some r) :
  Calls Try.prog 84 #[.agg #[.slice A0_0 l0_0.length c0_0, .slice A0_1 l0_1.length c0_1], .string a1] w fun e w' => e = .returned (.int .i64 r) ∧ Below w.heap.size w w' := by
 obtain rfl := Option.some.inj h
 clear h
 have hu := Try.underlying31
 have HW : Aside0 (Below w.heap.size w ((w.alloc (.cells #[.slice A0_0 l0_0.length c0_0, .slice A0_1 l0_1.length c0_1] 31 (0, 0))).alloc (.cells #[.string a1] 9 (0, 0)))) := ⟨((Below.refl _ _).alloc (Nat.le_refl _) _).alloc (by simp) _⟩
 have HC : Aside0 (Calls Try.prog 117 #[.slice A0_1 l0_1.length c0_1, .func (.func 118) #[] #[.pointer (some ⟨w.heap.size + 1, 0, none⟩)]] ((w.alloc (.cells #[.slice A0_0 l0_0.length c0_0, .slice A0_1 l0_1.length c0_1] 31 (0, 0))).alloc (.cells #[.string a1] 9 (0, 0))) fun e w' => e = .returned (.int .i64 (idxI (fun s => s.toList == a1.toList) l0_1 0)) ∧ Below ((w.alloc (.cells #[.slice A0_0 l0_0.length c0_0, .slice A0_1 l0_1.length c0_1] 31 (0, 0))).alloc (.cells #[.string a1] 9 (0, 0))).heap.size ((w.alloc (.cells #[.slice A0_0 l0_0.length c0_0, .slice A0_1 l0_1.length c0_1] 31 (0, 0))).alloc (.cells #[.string a1] 9 (0, 0))) w') := by
  refine ⟨indexFuncB_any 118 _ (enters_of Try.func118 (by kernel_rfl) rfl) (fun s => s.toList == a1.toList) A0_1 c0_1 l0_1 _ (Kd.C_below hr0_1 HW.out) ?_⟩
  intro W s A1 n1 c1 A2 n2 c2 hb
  have hcell : W.cell? ⟨w.heap.size + 1, 0, none⟩ = some (.string a1) := by
   rw [hb.cell (p := ⟨w.heap.size + 1, 0, none⟩) (by simp)]
   simp
  exact (at1_any s a1 A1 n1 c1 A2 n2 c2 (w.heap.size + 1) W (Nat.lt_of_lt_of_le (by simp) hb.size) hcell).mono fun e w' ⟨he, hd⟩ => ⟨he, below_then hb hb.size hd⟩
 generalize idxI (fun s => s.toList == a1.toList) l0_1 0 = b at HC
 clear hr0_0 hc0_0 hr0_1 hc0_1
 go_enter Try.func84, Try.ntmps84
 go_wp2_with ((go_at_call 117; refine HC.out.mono ?_; rintro e w' ⟨rfl, hb'⟩))
 go_ret
 exact ⟨rfl, below_then HW.out HW.out.size hb'⟩
end Go.Proofs.Ytaofjgnhapnndaa.Q
