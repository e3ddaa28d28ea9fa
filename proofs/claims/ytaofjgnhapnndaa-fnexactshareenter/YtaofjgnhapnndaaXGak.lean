/- Texts that the row needs: words on memory and rows, the contracts of the functions it reaches, and the plain lemmas on what they compute. -/
import Derived.Test.YtaofjgnhapnndaaProg
import Derived.Below
import Derived.Deep.Draws
import Derived.Deep.AppendLies
import Derived.Maps.AppendAt
import Derived.OwnWalk
import Derived.Laws.BytesArg
import Derived.Laws.MakeOwn
import Derived.Laws.OwnMore
import Derived.Deep.OwnRows
import Derived.Tactics
import Derived.Lib.ConvBytes
import Derived.Laws.Slices
import Derived.WalkKit
import Derived.KernelRfl
import Derived.RowKit3
import Derived.Deep.LoopGhost
import Derived.Deep.QuietTactic
import Derived.BigQuiet
import Derived.WideLaws
import Derived.Deep.DeepCutAuto
import Derived.Deep.CutBlock
import Derived.Deep.RegionHeld3
import Derived.Laws.Rows
import Derived.Lib.AppendStr
import Derived.ArgAppend
import Derived.Laws.IdiomCopy
import Derived.OrdersHeld
import Derived.Laws.BitsLemmas
import Derived.RowKit
import Derived.WalkLawsBesides
import Derived.Laws.StructEq
import Derived.Shelf.Abstract
import Derived.Test.YtaofjgnhapnndaaRows
import Derived.ProofKit
import Derived.Shelf.GgSortFunc.SmallK
import Derived.Ground.GgsProg
import Derived.Shelf.GgSortFunc.Tiny
import Derived.Test.YtaofjgnhapnndaaXGaa
import Derived.Test.YtaofjgnhapnndaaXGab
import Derived.Test.YtaofjgnhapnndaaXGac
import Derived.Test.YtaofjgnhapnndaaXGad
import Derived.Test.YtaofjgnhapnndaaXGae
import Derived.Test.YtaofjgnhapnndaaXGaf
import Derived.Test.YtaofjgnhapnndaaXGag
import Derived.Test.YtaofjgnhapnndaaXGah
import Derived.Test.YtaofjgnhapnndaaXGai
import Derived.Test.YtaofjgnhapnndaaXGaj
open Go.Proofs.YtaofjgnhapnndaaFG
namespace Go.Proofs.Ytaofjgnhapnndaa.Q
open Go.RowKit Go.Proofs.YtaofjgnhapnndaaW.PrintWords Go.Proofs.YtaofjgnhapnndaaW.PrintLast Go.Proofs.YtaofjgnhapnndaaW.PrintMore
set_option linter.unusedVariables false
set_option linter.unusedSimpArgs false
def PredS (g : Nat) (lb : Array Value) (p : ByteArray → Bool) (w : World) : Prop :=
  ∀ (W : World) (s : ByteArray), Below w.heap.size w W → Calls Try.prog g (#[.string s] ++ lb) W fun e w' => e = .returned (.bool (p s)) ∧ Below w.heap.size w w'
theorem C_len {α : Type} {d : Kd α} {w : World} {A : Option Addr} {n : Nat} {xs : List α} (h : d.C w A n xs) : n ≤ 9223372036854775807 := h.2.1
def idxP (p : ByteArray → Bool) : List ByteArray → Nat → Int
  | [], _ => -1
  | x :: xs, i => if p x = true then (i : Int) else idxP p xs (i + 1)
theorem idxP_nonneg (p : ByteArray → Bool) : ∀ (l : List ByteArray) (i : Nat), decide (0 ≤ idxP p l i) = l.any p := by
  intro l
  induction l with
  | nil => intro i; simp [idxP]
  | cons x xs ih =>
    intro i
    unfold idxP
    cases h : p x with
    | true => simp [h]
    | false => simp [h, ih]
set_option maxHeartbeats 2000000 in
theorem indexFunc_any (g : Nat) (lb : Array Value) (eg : ∀ args w, (callFunc g args).run Try.prog w = .ok (.enter g args) w) (p : ByteArray → Bool) (A0 : Option Addr) (c0 : Nat) (l0 : List ByteArray) (w : World)
    (hr0 : Kd.C Kd.string w A0 l0.length l0) (hp : PredS g lb p w) :
    Calls Try.prog 113 #[.slice A0 l0.length c0, .func (.func g) #[] lb] w fun e w' => e = .returned (.int .i64 (idxP p l0 0)) ∧ Below w.heap.size w w' := by
  have hbig := C_len hr0
  have HR0 := Aside0.mk hr0
  clear hr0
  have HP := Aside0.mk hp
  clear hp
  go_enter Try.func113, Try.ntmps113
  go_wp2
  go_loopg [5, 8] l0.length (fun gg _ s8 wr => ∃ kk : Nat, kk ≤ l0.length ∧ l0.length - kk ≤ gg ∧ s8 = .int .i64 kk ∧ Aside0 (Below w.heap.size w wr) ∧ Aside0 (idxP p l0 0 = idxP p (l0.drop kk) kk))
  case atStart => exact ⟨0, Nat.zero_le _, by omega, rfl, ⟨Below.refl _ w⟩, ⟨by rw [List.drop_zero]⟩⟩
  case round =>
    obtain ⟨kk, hkk, hg, rfl, BW, A⟩ := hrel
    by_cases hlt : kk < l0.length
    · have hltz : (kk : Int) < (l0.length : Int) := by omega
      have e1 := A.out
      rw [List.drop_eq_getElem_cons hlt, idxP] at e1
      have E1 := Aside0.mk e1
      clear e1
      obtain ⟨ad, rfl, hx⟩ := Kd.at_string HR0.1 (kk : Int) (by omega) (by omega)
      rw [rdOf_nat _ _ _ hlt, Int.toNat_natCast] at hx
      have hcall := HP.out wr l0[kk] BW.out
      replace hx := (BW.out.cell (World.block_lt_of_cell? w _ hx)).trans hx
      generalize hy : l0[kk] = y at hx hcall E1
      clear hy
      cases hq : p y with
      | true =>
        rw [hq] at hcall
        have E2 : Aside0 (idxP p l0 0 = kk) := ⟨by rw [E1.out, if_pos hq]⟩
        clear hq
        go_wp2_with (go_at_fn g; refine hcall.mono ?_; rintro e w' ⟨rfl, hb'⟩)
        go_ret
        exact ⟨by rw [E2.out]; rfl, hb'⟩
      | false =>
        rw [hq] at hcall
        have E2 : Aside0 (idxP p l0 0 = idxP p (l0.drop (kk + 1)) (kk + 1)) := ⟨by rw [E1.out, if_neg (by simp [hq])]⟩
        clear hq
        go_wp2_with (go_at_fn g; refine hcall.mono ?_; rintro e w' ⟨rfl, hb'⟩)
        go_roundg (l0.length - (kk + 1))
        case measure => omega
        case rel => exact ⟨kk + 1, by omega, by omega, by go_num, ⟨hb'⟩, E2⟩
    · have hltz : ¬ (kk : Int) < (l0.length : Int) := by omega
      have hk2 : kk = l0.length := by omega
      have E2 : Aside0 (idxP p l0 0 = -1) := ⟨by rw [A.out, hk2, List.drop_length]; rfl⟩
      subst hk2
      go_wp2
      go_ret
      exact ⟨by rw [E2.out]; rfl, BW.out⟩
theorem containsFunc_any (g : Nat) (lb : Array Value) (eg : ∀ args w, (callFunc g args).run Try.prog w = .ok (.enter g args) w) (p : ByteArray → Bool) (A0 : Option Addr) (c0 : Nat) (l0 : List ByteArray) (w : World)
    (hr0 : Kd.C Kd.string w A0 l0.length l0) (hp : PredS g lb p w) :
    Calls Try.prog 75 #[.slice A0 l0.length c0, .func (.func g) #[] lb] w fun e w' => e = .returned (.bool (l0.any p)) ∧ Below w.heap.size w w' := by
  have HC := Aside0.mk (indexFunc_any g lb eg p A0 c0 l0 w hr0 hp)
  have HN := Aside0.mk (idxP_nonneg p l0 0)
  clear hr0 hp eg
  generalize idxP p l0 0 = q at HC HN
  go_enter Try.func75, Try.ntmps75
  go_wp2_with (go_at_call 113; refine HC.out.mono ?_; rintro e w' ⟨rfl, hb'⟩)
  go_ret
  exact ⟨by rw [← HN.out]; rfl, hb'⟩
end Go.Proofs.Ytaofjgnhapnndaa.Q
namespace Go.Proofs.Ytaofjgnhapnndaa.Q
open Go.RowKit Go.Proofs.YtaofjgnhapnndaaW.PrintWords Go.Proofs.YtaofjgnhapnndaaW.PrintLast Go.Proofs.YtaofjgnhapnndaaW.PrintMore
set_option linter.unusedVariables false
set_option linter.unusedSimpArgs false
mutual
def impl_name.j0 : Nat → ByteArray → Bool → Option (Bool)
 | 0, _, _ => none
 | k + 1, x0, x12 => if x12 = true then (some false) else (impl_name.l0 k x0 0)
def impl_name.l0 : Nat → ByteArray → Int → Option (Bool)
 | 0, _, _ => none
 | k + 1, x0, x3 => if x3 < (x0.size : Int) then (if 0 ≤ x3 then (if (bt x0 x3) ≥ 97 then (if (bt x0 x3) ≤ 122 then (impl_name.l0 k x0 (wrap64 (x3 + 1))) else (if (bt x0 x3) ≥ 48 then (if (bt x0 x3) ≤ 57 then (impl_name.l0 k x0 (wrap64 (x3 + 1))) else (if ((bt x0 x3) = 45) then (impl_name.l0 k x0 (wrap64 (x3 + 1))) else (some false))) else (if ((bt x0 x3) = 45) then (impl_name.l0 k x0 (wrap64 (x3 + 1))) else (some false)))) else (if (bt x0 x3) ≥ 48 then (if (bt x0 x3) ≤ 57 then (impl_name.l0 k x0 (wrap64 (x3 + 1))) else (if ((bt x0 x3) = 45) then (impl_name.l0 k x0 (wrap64 (x3 + 1))) else (some false))) else (if ((bt x0 x3) = 45) then (impl_name.l0 k x0 (wrap64 (x3 + 1))) else (some false)))) else (none)) else (some true)
end
def impl_name.f (k : Nat) (a0 : ByteArray) : Option (Bool) := if (a0.size : Int) < 1 then (impl_name.j0 k a0 true) else (impl_name.j0 k a0 (decide ((a0.size : Int) > 8)))
theorem impl_name.mono_l : ∀ k, (∀ y0 y1, LeO (impl_name.j0 k y0 y1) (impl_name.j0 (k + 1) y0 y1)) ∧ (∀ y0 y1, LeO (impl_name.l0 k y0 y1) (impl_name.l0 (k + 1) y0 y1))
 | 0 => ⟨fun _ _ r h => by simp [impl_name.j0] at h, fun _ _ r h => by simp [impl_name.l0] at h⟩
 | k + 1 => by
  obtain ⟨ih0, ih1⟩ := impl_name.mono_l k
  refine ⟨?_, ?_⟩
  ·intro y0 y1
   unfold impl_name.j0
   repeat' first
   | (with_reducible exact ih0 _ _)
   | (with_reducible exact ih1 _ _)
   | (with_reducible exact LeO.refl _)
   | (with_reducible exact LeO.none _)
   | (with_reducible refine LeO.ite ?_ ?_)
   | (with_reducible refine LeO.bind ?_ (fun _ => ?_))
   | exact ih0 _ _
   | exact ih1 _ _
   | exact LeO.none _
   | refine LeO.ite ?_ ?_
   | refine LeO.bind ?_ (fun _ => ?_)
  ·intro y0 y1
   unfold impl_name.l0
   repeat' first
   | (with_reducible exact ih0 _ _)
   | (with_reducible exact ih1 _ _)
   | (with_reducible exact LeO.refl _)
   | (with_reducible exact LeO.none _)
   | (with_reducible refine LeO.ite ?_ ?_)
   | (with_reducible refine LeO.bind ?_ (fun _ => ?_))
   | exact ih0 _ _
   | exact ih1 _ _
   | exact LeO.none _
   | refine LeO.ite ?_ ?_
   | refine LeO.bind ?_ (fun _ => ?_)
theorem impl_name.mono : ∀ a0 k, LeO (impl_name.f k a0) (impl_name.f (k + 1) a0) := by
 intro a0 k
 obtain ⟨ih0, ih1⟩ := impl_name.mono_l k
 unfold impl_name.f
 repeat' first
   | (with_reducible exact ih0 _ _)
   | (with_reducible exact ih1 _ _)
   | (with_reducible exact LeO.refl _)
   | (with_reducible exact LeO.none _)
   | (with_reducible refine LeO.ite ?_ ?_)
   | (with_reducible refine LeO.bind ?_ (fun _ => ?_))
   | exact ih0 _ _
   | exact ih1 _ _
   | exact LeO.none _
   | refine LeO.ite ?_ ?_
   | refine LeO.bind ?_ (fun _ => ?_)
set_option maxHeartbeats 8000000 in
set_option maxRecDepth 100000 in
theorem impl_name.calls (k : Nat) (a0 : ByteArray) (r : Bool) (w : World) (h : impl_name.f k a0 = some r) :
  Calls Try.prog 77 #[.string a0] w fun e w' => e = .returned (.bool r) ∧ Drawn0 w w' := by
 have H : (if (a0.size : Int) < 1 then (impl_name.j0 k a0 true) else (impl_name.j0 k a0 (decide ((a0.size : Int) > 8)))) = some r := h
 clear h
 have HC2 := Aside0.mk H
 clear H
 go_enter Try.func77, Try.ntmps77
 go_upto_region 1 with (fail)
 go_cut [12] (fun v12 wc => ∃ (kq : Nat) (x12_1 : Bool), v12 = .bool x12_1 ∧ Aside0 (impl_name.j0 kq a0 x12_1 = some r) ∧ Aside0 (kq ≤ k) ∧ Drawn0 w wc)
 case first =>
  have H := HC2.1
  clear HC2
  by_cases c3 : (a0.size : Int) < 1
  ·rw [if_pos c3] at H
   have c3b0 : decide ((a0.size : Int) < 1) = true := decide_eq_true c3
   have c3b1 : decide (a0.size < 1) = true := decide_eq_true (by omega)
   clear c3
   (first | rw [c3b0] | (simp only [i64_w, i32_w]; rw [c3b0]) | skip)
   have H' := Aside0.mk H
   clear H
   go_wp2
   go_meet
   case rel => exact ⟨_, (true), (pY51), H', ⟨by first | omega | exact Nat.le_refl _⟩, pY49⟩
  ·rw [if_neg c3] at H
   have c3b0 : decide ((a0.size : Int) < 1) = false := decide_eq_false c3
   have c3b1 : decide (a0.size < 1) = false := decide_eq_false (by omega)
   clear c3
   (first | rw [c3b0] | (simp only [i64_w, i32_w]; rw [c3b0]) | skip)
   have H' := Aside0.mk H
   clear H
   go_wp2
   go_meet
   case rel => exact ⟨_, (decide ((a0.size : Int) > 8)), (pY51), H', ⟨by first | omega | exact Nat.le_refl _⟩, pY49⟩
 case rest =>
  clear HC2
  try clear p2
  try clear c3
  try clear c3b0
  try clear c3b1
  obtain ⟨kq, x12_1, rfl, HA, HJ1, ⟨mc1, rfl⟩⟩ := hcut
  cases kq with
  | zero => exact absurd HA.out (by simp [impl_name.j0])
  | succ kj1 =>
   have H := HA.out
   clear HA
   simp only [impl_name.j0] at H
   by_cases c4 : x12_1 = true
   ·subst c4
    have H1 : (some false) = some r := by rw [if_pos rfl] at H; exact H
    clear H
    have H := H1
    clear H1
    obtain rfl := Option.some.inj H
    go_wp2
    go_ret
    exact ⟨by first | rfl | (simp; done) | (simp [*]; done), pY49⟩
   ·replace c4 := Bool.eq_false_iff.mpr c4
    subst c4
    have H1 : (impl_name.l0 kj1 a0 0) = some r := by rw [if_neg (show ¬ (false = true) by decide)] at H; exact H
    clear H
    have H := H1
    clear H1
    have H' := Aside0.mk H
    clear H
    go_wp2
    go_loopg [3] kj1 (fun kq v3 w' => ∃ (x3_2 : Int), v3 = .int .i64 x3_2 ∧ Aside0 (impl_name.l0 kq a0 x3_2 = some r) ∧ Aside0 (kq ≤ kj1) ∧ Drawn0 w w')
    case atStart => exact ⟨(0), (pY51), H', ⟨Nat.le_refl _⟩, pY49⟩
    case round =>
     clear H'
     try clear c1
     try clear p2
     try clear c3
     try clear c3b0
     try clear c3b1
     try clear c4
     try clear p2
     obtain ⟨x3_2, rfl, HA, HK2, ⟨m2, rfl⟩⟩ := hrel
     cases gk with
     | zero => exact absurd HA.out (by simp [impl_name.l0])
     | succ k2 =>
      have H := HA.out
      clear HA
      simp only [impl_name.l0] at H
      by_cases c5 : x3_2 < (a0.size : Int)
      ·rw [if_pos c5] at H
       have c5b0 : decide (x3_2 < (a0.size : Int)) = true := decide_eq_true c5
       clear c5
       by_cases c6 : 0 ≤ x3_2
       ·rw [if_pos c6] at H
        have c6b0 : decide (0 ≤ x3_2) = true := decide_eq_true c6
        clear c6
        by_cases c8 : (bt a0 x3_2) ≥ 97
        ·rw [if_pos c8] at H
         have c8b0 : decide (97 ≤ (bt a0 x3_2)) = true := decide_eq_true c8
         clear c8
         by_cases c9 : (bt a0 x3_2) ≤ 122
         ·rw [if_pos c9] at H
          have c9b0 : decide ((bt a0 x3_2) ≤ 122) = true := decide_eq_true c9
          clear c9
          have H' := Aside0.mk H
          clear H
          have p7 : 0 ≤ (x3_2 : Int) := of_decide_eq_true (pY50)
          have q7 : x3_2 < (a0.size : Int) := of_decide_eq_true (pY50)
          have hx7 := bt_at a0 x3_2
          replace p7 := eq_true p7
          replace q7 := eq_true q7
          go_wp2
          go_roundg k2
          case measure => have := HJ1.out; have := HK2.out; omega
          case rel => exact ⟨(wrap64 (x3_2 + 1)), (pY51), H', ⟨by have := HJ1.out; have := HK2.out; omega⟩, pY49⟩
         ·rw [if_neg c9] at H
          have c9b0 : decide ((bt a0 x3_2) ≤ 122) = false := decide_eq_false c9
          clear c9
          by_cases c10 : (bt a0 x3_2) ≥ 48
          ·rw [if_pos c10] at H
           have c10b0 : decide (48 ≤ (bt a0 x3_2)) = true := decide_eq_true c10
           clear c10
           by_cases c11 : (bt a0 x3_2) ≤ 57
           ·rw [if_pos c11] at H
            have c11b0 : decide ((bt a0 x3_2) ≤ 57) = true := decide_eq_true c11
            clear c11
            have H' := Aside0.mk H
            clear H
            have p7 : 0 ≤ (x3_2 : Int) := of_decide_eq_true (pY50)
            have q7 : x3_2 < (a0.size : Int) := of_decide_eq_true (pY50)
            have hx7 := bt_at a0 x3_2
            replace p7 := eq_true p7
            replace q7 := eq_true q7
            go_wp2
            go_roundg k2
            case measure => have := HJ1.out; have := HK2.out; omega
            case rel => exact ⟨(wrap64 (x3_2 + 1)), (pY51), H', ⟨by have := HJ1.out; have := HK2.out; omega⟩, pY49⟩
           ·rw [if_neg c11] at H
            have c11b0 : decide ((bt a0 x3_2) ≤ 57) = false := decide_eq_false c11
            clear c11
            by_cases c12 : ((bt a0 x3_2) = 45)
            ·rw [if_pos c12] at H
             have c12b0 : ((bt a0 x3_2) == 45) = true := beq_iff_eq.mpr c12
             have c12b1 : ((bt a0 x3_2) != 45) = false := bne_eq_false_iff_eq.mpr c12
             clear c12
             have H' := Aside0.mk H
             clear H
             have p7 : 0 ≤ (x3_2 : Int) := of_decide_eq_true (pY50)
             have q7 : x3_2 < (a0.size : Int) := of_decide_eq_true (pY50)
             have hx7 := bt_at a0 x3_2
             replace p7 := eq_true p7
             replace q7 := eq_true q7
             go_wp2
             go_roundg k2
             case measure => have := HJ1.out; have := HK2.out; omega
             case rel => exact ⟨(wrap64 (x3_2 + 1)), (pY51), H', ⟨by have := HJ1.out; have := HK2.out; omega⟩, pY49⟩
            ·rw [if_neg c12] at H
             have c12b0 : ((bt a0 x3_2) == 45) = false := beq_eq_false_iff_ne.mpr c12
             have c12b1 : ((bt a0 x3_2) != 45) = true := bne_iff_ne.mpr c12
             obtain rfl := Option.some.inj H
             have p7 : 0 ≤ (x3_2 : Int) := of_decide_eq_true (pY50)
             have q7 : x3_2 < (a0.size : Int) := of_decide_eq_true (pY50)
             have hx7 := bt_at a0 x3_2
             replace p7 := eq_true p7
             replace q7 := eq_true q7
             go_wp2
             go_ret
             exact ⟨by first | rfl | (simp; done) | (simp [*]; done), pY49⟩
          ·rw [if_neg c10] at H
           have c10b0 : decide (48 ≤ (bt a0 x3_2)) = false := decide_eq_false c10
           clear c10
           by_cases c13 : ((bt a0 x3_2) = 45)
           ·rw [if_pos c13] at H
            have c13b0 : ((bt a0 x3_2) == 45) = true := beq_iff_eq.mpr c13
            have c13b1 : ((bt a0 x3_2) != 45) = false := bne_eq_false_iff_eq.mpr c13
            clear c13
            have H' := Aside0.mk H
            clear H
            have p7 : 0 ≤ (x3_2 : Int) := of_decide_eq_true (pY50)
            have q7 : x3_2 < (a0.size : Int) := of_decide_eq_true (pY50)
            have hx7 := bt_at a0 x3_2
            replace p7 := eq_true p7
            replace q7 := eq_true q7
            go_wp2
            go_roundg k2
            case measure => have := HJ1.out; have := HK2.out; omega
            case rel => exact ⟨(wrap64 (x3_2 + 1)), (pY51), H', ⟨by have := HJ1.out; have := HK2.out; omega⟩, pY49⟩
           ·rw [if_neg c13] at H
            have c13b0 : ((bt a0 x3_2) == 45) = false := beq_eq_false_iff_ne.mpr c13
            have c13b1 : ((bt a0 x3_2) != 45) = true := bne_iff_ne.mpr c13
            obtain rfl := Option.some.inj H
            have p7 : 0 ≤ (x3_2 : Int) := of_decide_eq_true (pY50)
            have q7 : x3_2 < (a0.size : Int) := of_decide_eq_true (pY50)
            have hx7 := bt_at a0 x3_2
            replace p7 := eq_true p7
            replace q7 := eq_true q7
            go_wp2
            go_ret
            exact ⟨by first | rfl | (simp; done) | (simp [*]; done), pY49⟩
        ·rw [if_neg c8] at H
         have c8b0 : decide (97 ≤ (bt a0 x3_2)) = false := decide_eq_false c8
         clear c8
         by_cases c14 : (bt a0 x3_2) ≥ 48
         ·rw [if_pos c14] at H
          have c14b0 : decide (48 ≤ (bt a0 x3_2)) = true := decide_eq_true c14
          clear c14
          by_cases c15 : (bt a0 x3_2) ≤ 57
          ·rw [if_pos c15] at H
           have c15b0 : decide ((bt a0 x3_2) ≤ 57) = true := decide_eq_true c15
           clear c15
           have H' := Aside0.mk H
           clear H
           have p7 : 0 ≤ (x3_2 : Int) := of_decide_eq_true (pY50)
           have q7 : x3_2 < (a0.size : Int) := of_decide_eq_true (pY50)
           have hx7 := bt_at a0 x3_2
           replace p7 := eq_true p7
           replace q7 := eq_true q7
           go_wp2
           go_roundg k2
           case measure => have := HJ1.out; have := HK2.out; omega
           case rel => exact ⟨(wrap64 (x3_2 + 1)), (pY51), H', ⟨by have := HJ1.out; have := HK2.out; omega⟩, pY49⟩
          ·rw [if_neg c15] at H
           have c15b0 : decide ((bt a0 x3_2) ≤ 57) = false := decide_eq_false c15
           clear c15
           by_cases c16 : ((bt a0 x3_2) = 45)
           ·rw [if_pos c16] at H
            have c16b0 : ((bt a0 x3_2) == 45) = true := beq_iff_eq.mpr c16
            have c16b1 : ((bt a0 x3_2) != 45) = false := bne_eq_false_iff_eq.mpr c16
            clear c16
            have H' := Aside0.mk H
            clear H
            have p7 : 0 ≤ (x3_2 : Int) := of_decide_eq_true (pY50)
            have q7 : x3_2 < (a0.size : Int) := of_decide_eq_true (pY50)
            have hx7 := bt_at a0 x3_2
            replace p7 := eq_true p7
            replace q7 := eq_true q7
            go_wp2
            go_roundg k2
            case measure => have := HJ1.out; have := HK2.out; omega
            case rel => exact ⟨(wrap64 (x3_2 + 1)), (pY51), H', ⟨by have := HJ1.out; have := HK2.out; omega⟩, pY49⟩
           ·rw [if_neg c16] at H
            have c16b0 : ((bt a0 x3_2) == 45) = false := beq_eq_false_iff_ne.mpr c16
            have c16b1 : ((bt a0 x3_2) != 45) = true := bne_iff_ne.mpr c16
            obtain rfl := Option.some.inj H
            have p7 : 0 ≤ (x3_2 : Int) := of_decide_eq_true (pY50)
            have q7 : x3_2 < (a0.size : Int) := of_decide_eq_true (pY50)
            have hx7 := bt_at a0 x3_2
            replace p7 := eq_true p7
            replace q7 := eq_true q7
            go_wp2
            go_ret
            exact ⟨by first | rfl | (simp; done) | (simp [*]; done), pY49⟩
         ·rw [if_neg c14] at H
          have c14b0 : decide (48 ≤ (bt a0 x3_2)) = false := decide_eq_false c14
          clear c14
          by_cases c17 : ((bt a0 x3_2) = 45)
          ·rw [if_pos c17] at H
           have c17b0 : ((bt a0 x3_2) == 45) = true := beq_iff_eq.mpr c17
           have c17b1 : ((bt a0 x3_2) != 45) = false := bne_eq_false_iff_eq.mpr c17
           clear c17
           have H' := Aside0.mk H
           clear H
           have p7 : 0 ≤ (x3_2 : Int) := of_decide_eq_true (pY50)
           have q7 : x3_2 < (a0.size : Int) := of_decide_eq_true (pY50)
           have hx7 := bt_at a0 x3_2
           replace p7 := eq_true p7
           replace q7 := eq_true q7
           go_wp2
           go_roundg k2
           case measure => have := HJ1.out; have := HK2.out; omega
           case rel => exact ⟨(wrap64 (x3_2 + 1)), (pY51), H', ⟨by have := HJ1.out; have := HK2.out; omega⟩, pY49⟩
          ·rw [if_neg c17] at H
           have c17b0 : ((bt a0 x3_2) == 45) = false := beq_eq_false_iff_ne.mpr c17
           have c17b1 : ((bt a0 x3_2) != 45) = true := bne_iff_ne.mpr c17
           obtain rfl := Option.some.inj H
           have p7 : 0 ≤ (x3_2 : Int) := of_decide_eq_true (pY50)
           have q7 : x3_2 < (a0.size : Int) := of_decide_eq_true (pY50)
           have hx7 := bt_at a0 x3_2
           replace p7 := eq_true p7
           replace q7 := eq_true q7
           go_wp2
           go_ret
           exact ⟨by first | rfl | (simp; done) | (simp [*]; done), pY49⟩
       ·rw [if_neg c6] at H
        exact absurd H (by simp)
      ·rw [if_neg c5] at H
       have c5b0 : decide (x3_2 < (a0.size : Int)) = false := decide_eq_false c5
       clear c5
       obtain rfl := Option.some.inj H
       go_wp2
       go_ret
       exact ⟨by first | rfl | (simp; done) | (simp [*]; done), pY49⟩
end Go.Proofs.Ytaofjgnhapnndaa.Q
namespace Go.Proofs.Ytaofjgnhapnndaa.Q
open Go.RowKit Go.Proofs.YtaofjgnhapnndaaW.PrintWords Go.Proofs.YtaofjgnhapnndaaW.PrintLast Go.Proofs.YtaofjgnhapnndaaW.PrintMore
set_option linter.unusedVariables false
set_option linter.unusedSimpArgs false
def okc (c : Int) : Bool := (decide (97 ≤ c) && decide (c ≤ 122)) || (decide (48 ≤ c) && decide (c ≤ 57)) || decide (c = 45)
def nameB (s : ByteArray) : Bool := decide (1 ≤ s.size) && decide (s.size ≤ 8) && (List.range' 0 s.size).all fun j => okc (bt s (j : Int))
theorem okc_true {c : Int} (h : okc c = true) : (97 ≤ c ∧ c ≤ 122) ∨ (48 ≤ c ∧ c ≤ 57) ∨ c = 45 := by
  simpa [okc, or_assoc] using h
theorem okc_false {c : Int} (h : okc c = false) : ¬ (97 ≤ c ∧ c ≤ 122) ∧ ¬ (48 ≤ c ∧ c ≤ 57) ∧ ¬ c = 45 := by
  simp only [okc, Bool.or_eq_false_iff, Bool.and_eq_false_iff, decide_eq_false_iff_not] at h
  omega
theorem okc_ite {α : Type} (c : Int) (x y : α) :
    (if c ≥ 97 then (if c ≤ 122 then x else (if c ≥ 48 then (if c ≤ 57 then x else (if c = 45 then x else y)) else (if c = 45 then x else y))) else (if c ≥ 48 then (if c ≤ 57 then x else (if c = 45 then x else y)) else (if c = 45 then x else y))) = if okc c = true then x else y := by
  cases h : okc c with
  | true =>
    rw [if_pos rfl]
    have h := okc_true h
    split
    · split
      · rfl
      · split
        · split
          · rfl
          · rw [if_pos (by omega)]
        · rw [if_pos (by omega)]
    · split
      · split
        · rfl
        · rw [if_pos (by omega)]
      · rw [if_pos (by omega)]
  | false =>
    rw [show (if false = true then x else y) = y from rfl]
    obtain ⟨h1, h2, h3⟩ := okc_false h
    rw [if_neg h3]
    by_cases a : c ≥ 97
    · rw [if_pos a, if_neg (fun b => h1 ⟨a, b⟩)]
      by_cases a2 : c ≥ 48
      · rw [if_pos a2, if_neg (fun b => h2 ⟨a2, b⟩)]
      · rw [if_neg a2]
    · rw [if_neg a]
      by_cases a2 : c ≥ 48
      · rw [if_pos a2, if_neg (fun b => h2 ⟨a2, b⟩)]
      · rw [if_neg a2]
theorem name_go (s : ByteArray) (hs : s.size ≤ 9223372036854775807) : ∀ (d k i : Nat), s.size - i = d → i ≤ s.size → d < k →
    impl_name.l0 k s (i : Int) = some ((List.range' i d).all fun j => okc (bt s (j : Int))) := by
  intro d
  induction d with
  | zero =>
    intro k i hd hi hk
    obtain ⟨k, rfl⟩ : ∃ m, k = m + 1 := ⟨k - 1, by omega⟩
    simp only [impl_name.l0]
    rw [if_neg (by omega)]
    rfl
  | succ d ih =>
    intro k i hd hi hk
    obtain ⟨k, rfl⟩ : ∃ m, k = m + 1 := ⟨k - 1, by omega⟩
    simp only [impl_name.l0, List.range'_succ, List.all_cons]
    rw [if_pos (by omega), if_pos (by omega), okc_ite]
    cases h : okc (bt s (i : Int)) with
    | true =>
      rw [if_pos rfl, wrap_succ (show i < s.size by omega) hs, ih k (i + 1) (by omega) (by omega) (by omega)]
      rfl
    | false =>
      rw [if_neg (by simp)]
      rfl
theorem name_at (s : ByteArray) : impl_name.f 10 s = some (nameB s) := by
  unfold impl_name.f nameB
  by_cases h1 : (s.size : Int) < 1
  · rw [if_pos h1]
    simp only [impl_name.j0]
    rw [if_pos trivial, show decide (1 ≤ s.size) = false from decide_eq_false (by omega)]
    rfl
  · rw [if_neg h1]
    simp only [impl_name.j0]
    by_cases h2 : (s.size : Int) > 8
    · rw [if_pos (decide_eq_true h2), show decide (s.size ≤ 8) = false from decide_eq_false (by omega)]
      simp
    · rw [if_neg (by simpa using h2), show (0 : Int) = ((0 : Nat) : Int) from rfl, name_go s (by omega) s.size 9 0 (by omega) (by omega) (by omega)]
      rw [show decide (s.size ≤ 8) = true from decide_eq_true (by omega), show decide (1 ≤ s.size) = true from decide_eq_true (by omega)]
      rfl
end Go.Proofs.Ytaofjgnhapnndaa.Q
namespace Go.Proofs.Ytaofjgnhapnndaa.Q
open Go.RowKit Go.Proofs.YtaofjgnhapnndaaW.PrintWords Go.Proofs.YtaofjgnhapnndaaW.PrintLast Go.Proofs.YtaofjgnhapnndaaW.PrintMore
set_option linter.unusedVariables false
set_option linter.unusedSimpArgs false
def impl_ShareBookOk_1.f (k : Nat) (a0 : ByteArray) : Option (Bool) := (impl_name.f k a0).bind fun t101 => (some (!t101))
set_option maxHeartbeats 8000000 in
set_option maxRecDepth 100000 in
theorem impl_ShareBookOk_1.calls (k : Nat) (a0 : ByteArray) (r : Bool) (w : World) (h : impl_ShareBookOk_1.f k a0 = some r) :
  Calls Try.prog 76 #[.string a0] w fun e w' => e = .returned (.bool r) ∧ Drawn0 w w' := by
 have H : ((impl_name.f k a0).bind fun t101 => (some (!t101))) = some r := h
 clear h
 replace H := Option.bind_eq_some_iff.mp H
 obtain ⟨t101, A20, H⟩ := H
 replace H : (some (!t101)) = some r := H
 have A2 := Aside0.mk A20
 clear A20
 obtain rfl := Option.some.inj H
 go_enter Try.func76, Try.ntmps76
 go_wp2_with (first | ((with_reducible refine gate_callee (f := 77) rfl ?_); refine goesL_ (some 4) rfl rfl Try.func77 (by kernel_rfl) rfl #[.string a0] rfl (pY36) ?_; (with_reducible refine (impl_name.calls k a0 t101 _ A2.out).mono ?_); rintro e w' ⟨rfl, ⟨nd, rfl⟩⟩; refine ⟨_, rfl, ?_⟩))
 go_ret
 exact ⟨by first | rfl | (simp; done) | (simp [*]; done), pY49⟩
end Go.Proofs.Ytaofjgnhapnndaa.Q
namespace Go.Proofs.Ytaofjgnhapnndaa.Q
open Go.RowKit Go.Proofs.YtaofjgnhapnndaaW.PrintWords Go.Proofs.YtaofjgnhapnndaaW.PrintLast Go.Proofs.YtaofjgnhapnndaaW.PrintMore
set_option linter.unusedVariables false
set_option linter.unusedSimpArgs false
theorem notName_at (s : ByteArray) : impl_ShareBookOk_1.f 10 s = some (!nameB s) := by
 unfold impl_ShareBookOk_1.f
 rw [name_at]
 rfl
def slices_ContainsFunc_string_string.f (l0 : List ByteArray) : Option (Bool) := some (l0.any fun s => !nameB s)
theorem slices_ContainsFunc_string_string.calls (A0 : Option Addr) (c0 : Nat) (l0 : List ByteArray) (r : Bool) (w : World) (hr0 : Kd.C Kd.string w A0 l0.length l0) (hc0 : l0.length ≤ c0) (h : slices_ContainsFunc_string_string.f l0 = some r) :
  Calls Try.prog 75 #[.slice A0 l0.length c0, .func (.func 76) #[] #[]] w fun e w' => e = .returned (.bool r) ∧ Below w.heap.size w w' := by
 obtain rfl := Option.some.inj h
 refine containsFunc_any 76 #[] (enters_of Try.func76 (by kernel_rfl) rfl) (fun s => !nameB s) A0 c0 l0 w hr0 (fun W s hb => ?_)
 exact (impl_ShareBookOk_1.calls 10 s (!nameB s) W (notName_at s)).mono fun e w' ⟨he, hd⟩ => ⟨he, below_then hb hb.size hd.below⟩
end Go.Proofs.Ytaofjgnhapnndaa.Q
namespace Go.Proofs.Ytaofjgnhapnndaa.Q
open Go.RowKit Go.Proofs.YtaofjgnhapnndaaW.PrintWords Go.Proofs.YtaofjgnhapnndaaW.PrintLast Go.Proofs.YtaofjgnhapnndaaW.PrintMore
set_option linter.unusedVariables false
set_option linter.unusedSimpArgs false
theorem common1_any (s : ByteArray) (gb : Nat) (A1 : Option Addr) (c1 : Nat) (l1 : List ByteArray) (W : World) (hc1 : l1.length ≤ c1) (hcell : W.cell? ⟨gb, 0, none⟩ = some (.slice A1 l1.length c1)) (hr1 : Kd.C Kd.string W A1 l1.length l1) :
  Calls Try.prog 114 #[.string s, .pointer (some ⟨gb, 0, none⟩)] W fun e w' => e = .returned (.bool (hasS l1 s)) ∧ Drawn0 W w' := by
 have HR1 := Aside0.mk hr1
 have HC1 := Aside0.mk hc1
 have HK := Aside0.mk (contains_at l1 s (C_len hr1))
 clear hr1 hc1
 generalize hasS l1 s = b at HK
 go_enter Try.func114, Try.ntmps114
 go_wp2_with (go_at_call 81; refine (slices_Contains_string_string.calls (l1.length + 1) A1 c1 l1 s b _ ?s1 HC1.1 HK.out).mono ?_; (case s1 => repeat (first | exact HR1.1 | (with_reducible refine Kd.C_alloc ?_ _) | (with_reducible refine Kd.C_drewN ?_ _) | (with_reducible refine Kd.C_drew ?_))); rintro e w' ⟨rfl, ⟨nd, rfl⟩⟩)
 go_ret
 exact ⟨rfl, pY49⟩
def impl_common.f (l0 : List ByteArray) (l1 : List ByteArray) : Option (Bool) := some (l0.any (hasS l1))
theorem impl_common.calls (A0 : Option Addr) (c0 : Nat) (l0 : List ByteArray) (A1 : Option Addr) (c1 : Nat) (l1 : List ByteArray) (r : Bool) (w : World) (hr0 : Kd.C Kd.string w A0 l0.length l0) (hc0 : l0.length ≤ c0) (hr1 : Kd.C Kd.string w A1 l1.length l1) (hc1 : l1.length ≤ c1) (h : impl_common.f l0 l1 = some r) :
  Calls Try.prog 78 #[.slice A0 l0.length c0, .slice A1 l1.length c1] w fun e w' => e = .returned (.bool r) ∧ Below w.heap.size w w' := by
 obtain rfl := Option.some.inj h
 clear h
 have HW : Aside0 (Below w.heap.size w (w.alloc (.cells #[.slice A1 l1.length c1] 23 (0, 0)))) := ⟨(Below.refl _ _).alloc (Nat.le_refl _) _⟩
 have HC : Aside0 (Calls Try.prog 75 #[.slice A0 l0.length c0, .func (.func 114) #[] #[.pointer (some ⟨w.heap.size, 0, none⟩)]] (w.alloc (.cells #[.slice A1 l1.length c1] 23 (0, 0))) fun e w' => e = .returned (.bool (l0.any (hasS l1))) ∧ Below (w.alloc (.cells #[.slice A1 l1.length c1] 23 (0, 0))).heap.size (w.alloc (.cells #[.slice A1 l1.length c1] 23 (0, 0))) w') := by
  refine ⟨containsFunc_any 114 _ (enters_of Try.func114 (by kernel_rfl) rfl) (hasS l1) A0 c0 l0 _ (Kd.C_below hr0 HW.out) ?_⟩
  intro W s hb
  have hcell : W.cell? ⟨w.heap.size, 0, none⟩ = some (.slice A1 l1.length c1) := by
   rw [hb.cell (p := ⟨w.heap.size, 0, none⟩) (by simp)]
   simp
  exact (common1_any s w.heap.size A1 c1 l1 W hc1 hcell (Kd.C_below (Kd.C_below hr1 HW.out) hb)).mono fun e w' ⟨he, hd⟩ => ⟨he, below_then hb hb.size hd.below⟩
 generalize l0.any (hasS l1) = b at HC
 clear hr0 hc0 hr1 hc1
 go_enter Try.func78, Try.ntmps78
 go_wp2_with (go_at_call 75; refine HC.out.mono ?_; rintro e w' ⟨rfl, hb'⟩)
 go_ret
 exact ⟨rfl, below_then HW.out HW.out.size hb'⟩
end Go.Proofs.Ytaofjgnhapnndaa.Q
namespace Go.Proofs.Ytaofjgnhapnndaa.Q
open Go.RowKit Go.Proofs.YtaofjgnhapnndaaW.PrintWords Go.Proofs.YtaofjgnhapnndaaW.PrintLast Go.Proofs.YtaofjgnhapnndaaW.PrintMore
set_option linter.unusedVariables false
set_option linter.unusedSimpArgs false
mutual
def impl_ShareBookOk.j0 : Nat → Bool → List ByteArray → List (S56) → Option (Bool)
 | 0, _, _, _ => none
 | k + 1, x29, x102000, x102001 => if x29 = true then (some false) else (impl_ShareBookOk.l0 k x102001 (x102001.length : Int) 0 x102000 x102001)
def impl_ShareBookOk.l0 : Nat → List (S56) → Int → Int → List ByteArray → List (S56) → Option (Bool)
 | 0, _, _, _, _, _ => none
 | k + 1, x31, x32, x33, x102000, x102001 => if x33 < x32 then (if 0 ≤ x33 then (if x33 < (x31.length : Int) then ((impl_name.f k ((rd_T56 x31 x33).f0)).bind fun t106 => (if t106 = true then (if x33 > 0 then (if 0 ≤ (wrap64 (x33 - 1)) then (if (wrap64 (x33 - 1)) < (x102001.length : Int) then (if ((Op.bytesLess (((rd_T56 x102001 (wrap64 (x33 - 1))).f0).toList) (((rd_T56 x31 x33).f0).toList)) = true) then ((impl_of.f k ((rd_T56 x31 x33).f2) x102000).bind fun t108 => (if t108 = true then ((impl_of.f k ((rd_T56 x31 x33).f1) ((rd_T56 x31 x33).f2)).bind fun t109 => (impl_ShareBookOk.j2 k x33 x31 x32 x33 (!t109) x102000 x102001 ((rd_T56 x31 x33).f0) ((rd_T56 x31 x33).f1) ((rd_T56 x31 x33).f2))) else (impl_ShareBookOk.j2 k x33 x31 x32 x33 true x102000 x102001 ((rd_T56 x31 x33).f0) ((rd_T56 x31 x33).f1) ((rd_T56 x31 x33).f2)))) else (impl_ShareBookOk.j2 k x33 x31 x32 x33 true x102000 x102001 ((rd_T56 x31 x33).f0) ((rd_T56 x31 x33).f1) ((rd_T56 x31 x33).f2))) else (none)) else (none)) else ((impl_of.f k ((rd_T56 x31 x33).f2) x102000).bind fun t110 => (if t110 = true then ((impl_of.f k ((rd_T56 x31 x33).f1) ((rd_T56 x31 x33).f2)).bind fun t111 => (impl_ShareBookOk.j2 k x33 x31 x32 x33 (!t111) x102000 x102001 ((rd_T56 x31 x33).f0) ((rd_T56 x31 x33).f1) ((rd_T56 x31 x33).f2))) else (impl_ShareBookOk.j2 k x33 x31 x32 x33 true x102000 x102001 ((rd_T56 x31 x33).f0) ((rd_T56 x31 x33).f1) ((rd_T56 x31 x33).f2))))) else (impl_ShareBookOk.j2 k x33 x31 x32 x33 true x102000 x102001 ((rd_T56 x31 x33).f0) ((rd_T56 x31 x33).f1) ((rd_T56 x31 x33).f2)))) else (none)) else (none)) else (some true)
def impl_ShareBookOk.j2 : Nat → Int → List (S56) → Int → Int → Bool → List ByteArray → List (S56) → ByteArray → List ByteArray → List ByteArray → Option (Bool)
 | 0, _, _, _, _, _, _, _, _, _, _ => none
 | k + 1, x3, x31, x32, x33, x73, x102000, x102001, x106000, x106001, x106002 => if x73 = true then (some false) else (if 0 ≤ x3 then (if x3 ≤ (x102001.length : Int) then ((some (x102001.take (x3 : Int).toNat : List (S56))).bind fun y112 => (impl_ShareBookOk.l1 k x31 x32 x33 y112 (y112.length : Int) 0 x102000 x102001 x106000 x106001 x106002)) else (none)) else (none))
def impl_ShareBookOk.l1 : Nat → List (S56) → Int → Int → List (S56) → Int → Int → List ByteArray → List (S56) → ByteArray → List ByteArray → List ByteArray → Option (Bool)
 | 0, _, _, _, _, _, _, _, _, _, _, _ => none
 | k + 1, x31, x32, x33, x77, x78, x79, x102000, x102001, x106000, x106001, x106002 => if x79 < x78 then (if 0 ≤ x79 then (if x79 < (x77.length : Int) then ((impl_common.f x106001 ((rd_T56 x77 x79).f1)).bind fun t118 => (if t118 = true then (some false) else (impl_ShareBookOk.l1 k x31 x32 x33 x77 x78 (wrap64 (x79 + 1)) x102000 x102001 x106000 x106001 x106002))) else (none)) else (none)) else (impl_ShareBookOk.l0 k x31 x32 (wrap64 (x33 + 1)) x102000 x102001)
end
def impl_ShareBookOk.f (k : Nat) (l0_0 : List ByteArray) (l0_1 : List (S56)) : Option (Bool) := if (l0_0.length : Int) > 8 then (impl_ShareBookOk.j0 k true l0_0 l0_1) else (if (l0_1.length : Int) > 5 then (impl_ShareBookOk.j0 k true l0_0 l0_1) else ((impl_of.f k l0_0 l0_0).bind fun t102 => (if t102 = true then ((slices_ContainsFunc_string_string.f l0_0).bind fun t103 => (impl_ShareBookOk.j0 k t103 l0_0 l0_1)) else (impl_ShareBookOk.j0 k true l0_0 l0_1))))
def impl_ShareBookOk.T6 : Bool × List (List Nat × List Nat) := (true, [([], []), ([0], [0]), ([1], [1]), ([2], [2]), ([3, 2], [3]), ([4], [4]), ([5, 4], [4, 5]), ([6, 4, 4], [4, 6]), ([7], [7]), ([8, 7], [7, 8]), ([7], [7]), ([10, 7], [7, 10]), ([9, 11, 7], [7, 9, 11]), ([12, 7], [7, 12]), ([13, 7], [7, 13]), ([7], [7]), ([15, 7], [7, 15]), ([14, 16, 7], [7, 14, 16]), ([7, 17, 4], [4, 7, 17]), ([4, 18], [4, 18]), ([19, 7], [19]), ([20], [20]), ([21, 20], [20, 21]), ([20], [20]), ([23, 20], [20, 23]), ([22, 24, 20, 20], [20, 22, 24]), ([25, 20], [20, 25]), ([20, 26], [20, 26]), ([27, 25], [27]), ([28], [28]), ([29, 28], [28, 29]), ([28], [28]), ([31, 28], [28, 31]), ([30, 32, 28, 28], [28, 30, 32]), ([33, 28], [28, 33]), ([28, 34], [28, 34])])
def impl_ShareBookOk.B6 : List Nat := [0, 1, 3, 7, 15, 31, 63, 127, 255, 511, 255, 1279, 4095, 8191, 16383, 255, 33023, 131071, 262143, 524287, 1048575, 2097151, 4194303, 2097151, 10485759, 33554431, 67108863, 134217727, 268435455, 536870911, 1073741823, 536870911, 2684354559, 8589934591, 17179869183, 34359738367]
theorem impl_ShareBookOk.tab6 : rtab .any (opsOf Try.f24 6) = impl_ShareBookOk.T6 := by kernel_rfl
theorem impl_ShareBookOk.bits6 : waitsOk impl_ShareBookOk.T6.2 impl_ShareBookOk.B6 = true := by kernel_rfl
set_option maxHeartbeats 8000000 in
set_option maxRecDepth 100000 in
theorem impl_ShareBookOk.calls (k : Nat) (A0_0 : Option Addr) (c0_0 : Nat) (l0_0 : List ByteArray) (A0_1 : Option Addr) (c0_1 : Nat) (l0_1 : List (S56)) (r : Bool) (w : World) (hr0_0 : Kd.C Kd.string w A0_0 l0_0.length l0_0) (hc0_0 : l0_0.length ≤ c0_0) (hr0_1 : Kd.C k56 w A0_1 l0_1.length l0_1) (hc0_1 : l0_1.length ≤ c0_1) (h : impl_ShareBookOk.f k l0_0 l0_1 = some r) :
  Calls Try.prog 24 #[.agg #[.slice A0_0 l0_0.length c0_0, .slice A0_1 l0_1.length c0_1]] w fun e w' => e = .returned (.bool r) ∧ Below w.heap.size w w' := by
 have hu31 := Try.underlying31
 have hu56 := Try.underlying56
 have HR0_0 := Aside0.mk hr0_0
 have HC0_0 := Aside0.mk hc0_0
 clear hr0_0 hc0_0
 have HR0_1 := Aside0.mk hr0_1
 have HC0_1 := Aside0.mk hc0_1
 clear hr0_1 hc0_1
 have HB := Aside0.mk (Below.refl w.heap.size w)
 have H : (if (l0_0.length : Int) > 8 then (impl_ShareBookOk.j0 k true l0_0 l0_1) else (if (l0_1.length : Int) > 5 then (impl_ShareBookOk.j0 k true l0_0 l0_1) else ((impl_of.f k l0_0 l0_0).bind fun t102 => (if t102 = true then ((slices_ContainsFunc_string_string.f l0_0).bind fun t103 => (impl_ShareBookOk.j0 k t103 l0_0 l0_1)) else (impl_ShareBookOk.j0 k true l0_0 l0_1))))) = some r := h
 clear h
 have HC2 := Aside0.mk H
 clear H
 go_enter Try.func24, Try.ntmps24
 go_upto_region 1 with (first | ((with_reducible refine gate_dst (N := 1) rfl ?_); (try (refine gate_guard (by rfl) ?_; dsimp only)); refine box_event ?hg (N := 1) ?hd (cs := #[.slice A0_0 l0_0.length c0_0, .slice A0_1 l0_1.length c0_1]) (t := 31) ?hr ?_; (case hd => rfl); (case hg => rfl); (case hr => first | (go_simp; done) | (go_simp; rfl)); intro gb101 hg w3 hbox hb; have n0_ := Aside0.mk (below_step (pY37) hb); have n1_ := Aside0.mk (hbox); have n2_ := Aside0.mk ((pY34 : w.heap.size ≤ gb101)); have n3_ := Aside0.mk ((pY34 : w.heap.size ≤ gb101)); clear HB; have HB := n0_; have BK101 := n1_; have GW101 := n2_; have GE101 := n3_; clear n0_ n1_ n2_ n3_; clear hb hbox hg))
 (try simp only [Act.put, List.setIfInBounds_toArray, List.set_cons_zero, List.set_cons_succ])
 go_cut [29] (fun v29 wc => ∃ (kq : Nat) (x29_1 : Bool), v29 = .bool x29_1 ∧ Aside0 (impl_ShareBookOk.j0 kq x29_1 l0_0 l0_1 = some r) ∧ Aside0 (kq ≤ k) ∧ Aside0 (wc.heap[gb101]? = some (.cells #[(.slice A0_0 l0_0.length c0_0), (.slice A0_1 l0_1.length c0_1)] 31 (0, 0))) ∧ Aside0 (Below w.heap.size w wc))
 case first =>
  have H := HC2.1
  clear HC2
  by_cases c4 : (l0_0.length : Int) > 8
  ·rw [if_pos c4] at H
   have c4b0 : decide (8 < (l0_0.length : Int)) = true := decide_eq_true c4
   have c4b1 : decide (8 < l0_0.length) = true := decide_eq_true (by omega)
   clear c4
   (first | rw [c4b0] | (simp only [i64_w, i32_w]; rw [c4b0]) | skip)
   have H' := Aside0.mk H
   clear H
   have hcz5_0 : w3.cell? ⟨gb101, 0, none⟩ = some (.slice A0_0 l0_0.length c0_0) := (blk_cell BK101.1 0).trans rfl
   have hcz5_1 : w3.cell? ⟨gb101, 1, none⟩ = some (.slice A0_1 l0_1.length c0_1) := (blk_cell BK101.1 1).trans rfl
   have hfz5_0 := blk_frozen BK101.1 0
   have hfz5_1 := blk_frozen BK101.1 1
   go_wp2
   go_meet
   case rel => exact ⟨_, (true), (pY51), H', ⟨by first | omega | exact Nat.le_refl _⟩, ⟨by (with_reducible repeat (first | refine blk_drewN ?_ _ | refine blk_drew ?_ | refine blk_alloc ?_ _)); exact BK101.1⟩, ⟨pY35⟩⟩
  ·rw [if_neg c4] at H
   have c4b0 : decide (8 < (l0_0.length : Int)) = false := decide_eq_false c4
   have c4b1 : decide (8 < l0_0.length) = false := decide_eq_false (by omega)
   clear c4
   (first | rw [c4b0] | (simp only [i64_w, i32_w]; rw [c4b0]) | skip)
   by_cases c6 : (l0_1.length : Int) > 5
   ·rw [if_pos c6] at H
    have c6b0 : decide (5 < (l0_1.length : Int)) = true := decide_eq_true c6
    have c6b1 : decide (5 < l0_1.length) = true := decide_eq_true (by omega)
    clear c6
    have H' := Aside0.mk H
    clear H
    have hcz7_0 : w3.cell? ⟨gb101, 0, none⟩ = some (.slice A0_0 l0_0.length c0_0) := (blk_cell BK101.1 0).trans rfl
    have hcz7_1 : w3.cell? ⟨gb101, 1, none⟩ = some (.slice A0_1 l0_1.length c0_1) := (blk_cell BK101.1 1).trans rfl
    have hfz7_0 := blk_frozen BK101.1 0
    have hfz7_1 := blk_frozen BK101.1 1
    go_wp2
    go_meet
    case rel => exact ⟨_, (true), (pY51), H', ⟨by first | omega | exact Nat.le_refl _⟩, ⟨by (with_reducible repeat (first | refine blk_drewN ?_ _ | refine blk_drew ?_ | refine blk_alloc ?_ _)); exact BK101.1⟩, ⟨pY35⟩⟩
   ·rw [if_neg c6] at H
    have c6b0 : decide (5 < (l0_1.length : Int)) = false := decide_eq_false c6
    have c6b1 : decide (5 < l0_1.length) = false := decide_eq_false (by omega)
    clear c6
    replace H := Option.bind_eq_some_iff.mp H
    obtain ⟨t102, A80, H⟩ := H
    replace H : (if t102 = true then ((slices_ContainsFunc_string_string.f l0_0).bind fun t103 => (impl_ShareBookOk.j0 k t103 l0_0 l0_1)) else (impl_ShareBookOk.j0 k true l0_0 l0_1)) = some r := H
    have A8 := Aside0.mk A80
    clear A80
    by_cases c9 : t102 = true
    ·subst c9
     have H1 : ((slices_ContainsFunc_string_string.f l0_0).bind fun t103 => (impl_ShareBookOk.j0 k t103 l0_0 l0_1)) = some r := by rw [if_pos rfl] at H; exact H
     clear H
     have H := H1
     clear H1
     replace H := Option.bind_eq_some_iff.mp H
     obtain ⟨t103, A100, H⟩ := H
     replace H : (impl_ShareBookOk.j0 k t103 l0_0 l0_1) = some r := H
     have A10 := Aside0.mk A100
     clear A100
     have H' := Aside0.mk H
     clear H
     have hcz11_0 : w3.cell? ⟨gb101, 0, none⟩ = some (.slice A0_0 l0_0.length c0_0) := (blk_cell BK101.1 0).trans rfl
     have hcz11_1 : w3.cell? ⟨gb101, 1, none⟩ = some (.slice A0_1 l0_1.length c0_1) := (blk_cell BK101.1 1).trans rfl
     have hfz11_0 := blk_frozen BK101.1 0
     have hfz11_1 := blk_frozen BK101.1 1
     go_wp2_with (first | (go_at_call 74; (with_reducible refine (impl_of.calls k _ _ l0_0 _ _ l0_0 true _ ?side1 ?side2 ?side3 ?side4 A8.out).mono ?_); (case side1 => exact pC (Kd.C_below HR0_0.1 HB.1)); (case side2 => exact HC0_0.1); (case side3 => exact pC (Kd.C_below HR0_0.1 HB.1)); (case side4 => exact HC0_0.1); rintro e w' ⟨rfl, ⟨nd, rfl⟩⟩) | (go_at_call 75; (with_reducible refine (slices_ContainsFunc_string_string.calls _ _ l0_0  t103 _ ?side1 ?side2 A10.out).mono ?_); (case side1 => exact pC (Kd.C_below HR0_0.1 (pY35))); (case side2 => exact HC0_0.1); rintro e w12 ⟨rfl, hb⟩; have n0_ := Aside0.mk (blk_below (g := gb101) (o := .cells #[.slice A0_0 l0_0.length c0_0, .slice A0_1 l0_1.length c0_1] 31 (0, 0)) (pY38) hb); have n1_ := Aside0.mk (below_step (pY35) hb); clear BK101; clear HB; have BK101 := n0_; have HB := n1_; clear n0_ n1_; (try clear hb); (try clear hb2); (try clear hk); (try clear hi)))
     go_meet
     case rel => exact ⟨_, (t103), (pY51), H', ⟨by first | omega | exact Nat.le_refl _⟩, ⟨by (with_reducible repeat (first | refine blk_drewN ?_ _ | refine blk_drew ?_ | refine blk_alloc ?_ _)); exact BK101.1⟩, ⟨pY35⟩⟩
    ·replace c9 := Bool.eq_false_iff.mpr c9
     subst c9
     have H1 : (impl_ShareBookOk.j0 k true l0_0 l0_1) = some r := by rw [if_neg (show ¬ (false = true) by decide)] at H; exact H
     clear H
     have H := H1
     clear H1
     have H' := Aside0.mk H
     clear H
     have hcz13_0 : w3.cell? ⟨gb101, 0, none⟩ = some (.slice A0_0 l0_0.length c0_0) := (blk_cell BK101.1 0).trans rfl
     have hcz13_1 : w3.cell? ⟨gb101, 1, none⟩ = some (.slice A0_1 l0_1.length c0_1) := (blk_cell BK101.1 1).trans rfl
     have hfz13_0 := blk_frozen BK101.1 0
     have hfz13_1 := blk_frozen BK101.1 1
     go_wp2_with (first | (go_at_call 74; (with_reducible refine (impl_of.calls k _ _ l0_0 _ _ l0_0 false _ ?side1 ?side2 ?side3 ?side4 A8.out).mono ?_); (case side1 => exact pC (Kd.C_below HR0_0.1 HB.1)); (case side2 => exact HC0_0.1); (case side3 => exact pC (Kd.C_below HR0_0.1 HB.1)); (case side4 => exact HC0_0.1); rintro e w' ⟨rfl, ⟨nd, rfl⟩⟩))
     go_meet
     case rel => exact ⟨_, (true), (pY51), H', ⟨by first | omega | exact Nat.le_refl _⟩, ⟨by (with_reducible repeat (first | refine blk_drewN ?_ _ | refine blk_drew ?_ | refine blk_alloc ?_ _)); exact BK101.1⟩, ⟨pY35⟩⟩
 case rest =>
  clear HC2
  try clear c2
  try clear p2
  try clear c4
  try clear c4b0
  try clear c4b1
  try clear c6
  try clear c6b0
  try clear c6b1
  try clear c9
  try clear hcz11_0
  try clear hcz11_1
  try clear hcz13_0
  try clear hcz13_1
  try clear hcz5_0
  try clear hcz5_1
  try clear hcz7_0
  try clear hcz7_1
  try clear hfz11_0
  try clear hfz11_1
  try clear hfz13_0
  try clear hfz13_1
  try clear hfz5_0
  try clear hfz5_1
  try clear hfz7_0
  try clear hfz7_1
  obtain ⟨kq, x29_1, rfl, HA, HJ1, BK101, HB⟩ := hcut
  cases kq with
  | zero => exact absurd HA.out (by simp [impl_ShareBookOk.j0])
  | succ kj1 =>
   have H := HA.out
   clear HA
   simp only [impl_ShareBookOk.j0] at H
   by_cases c14 : x29_1 = true
   ·subst c14
    have H1 : (some false) = some r := by rw [if_pos rfl] at H; exact H
    clear H
    have H := H1
    clear H1
    obtain rfl := Option.some.inj H
    go_wp2
    go_ret
    exact ⟨by first | rfl | (simp [errW_none, errW_some] <;> rfl) | (simp [*, errW_none, errW_some] <;> rfl), pY35⟩
   ·replace c14 := Bool.eq_false_iff.mpr c14
    subst c14
    have H1 : (impl_ShareBookOk.l0 kj1 l0_1 (l0_1.length : Int) 0 l0_0 l0_1) = some r := by rw [if_neg (show ¬ (false = true) by decide)] at H; exact H
    clear H
    have H := H1
    clear H1
    have H' := Aside0.mk H
    clear H
    have hcz15_0 : wc.cell? ⟨gb101, 0, none⟩ = some (.slice A0_0 l0_0.length c0_0) := (blk_cell BK101.1 0).trans rfl
    have hcz15_1 : wc.cell? ⟨gb101, 1, none⟩ = some (.slice A0_1 l0_1.length c0_1) := (blk_cell BK101.1 1).trans rfl
    have hfz15_0 := blk_frozen BK101.1 0
    have hfz15_1 := blk_frozen BK101.1 1
    go_wp2
    go_loopg [33] kj1 (fun kq v33 w' => ∃ (x33_2 : Int), v33 = .int .i64 x33_2 ∧ Aside0 (impl_ShareBookOk.l0 kq l0_1 (l0_1.length : Int) x33_2 l0_0 l0_1 = some r) ∧ Aside0 (kq ≤ kj1) ∧ Aside0 (w'.heap[gb101]? = some (.cells #[(.slice A0_0 l0_0.length c0_0), (.slice A0_1 l0_1.length c0_1)] 31 (0, 0))) ∧ Aside0 (Below w.heap.size w w'))
    case atStart => exact ⟨(0), (pY51), H', ⟨Nat.le_refl _⟩, ⟨by (with_reducible repeat (first | refine blk_drewN ?_ _ | refine blk_drew ?_ | refine blk_alloc ?_ _)); exact BK101.1⟩, ⟨pY35⟩⟩
    case round =>
     clear H'
     try clear c1
     try clear c2
     try clear p2
     try clear c4
     try clear c4b0
     try clear c4b1
     try clear c6
     try clear c6b0
     try clear c6b1
     try clear c9
     try clear c14
     try clear hcz11_0
     try clear hcz11_1
     try clear hcz13_0
     try clear hcz13_1
     try clear hcz15_0
     try clear hcz15_1
     try clear hcz5_0
     try clear hcz5_1
     try clear hcz7_0
     try clear hcz7_1
     try clear hfz11_0
     try clear hfz11_1
     try clear hfz13_0
     try clear hfz13_1
     try clear hfz15_0
     try clear hfz15_1
     try clear hfz5_0
     try clear hfz5_1
     try clear hfz7_0
     try clear hfz7_1
     try clear p2
     obtain ⟨x33_2, rfl, HA, HK2, BK101, HB⟩ := hrel
     cases gk with
     | zero => exact absurd HA.out (by simp [impl_ShareBookOk.l0])
     | succ k2 =>
      have H := HA.out
      clear HA
      simp only [impl_ShareBookOk.l0] at H
      by_cases c16 : x33_2 < (l0_1.length : Int)
      ·rw [if_pos c16] at H
       have c16b0 : decide (x33_2 < (l0_1.length : Int)) = true := decide_eq_true c16
       clear c16
       by_cases c17 : 0 ≤ x33_2
       ·rw [if_pos c17] at H
        have c17b0 : decide (0 ≤ x33_2) = true := decide_eq_true c17
        clear c17
        by_cases c18 : x33_2 < (l0_1.length : Int)
        ·rw [if_pos c18] at H
         have c18b0 : decide (x33_2 < (l0_1.length : Int)) = true := decide_eq_true c18
         clear c18
         have HC19 := Aside0.mk H
         clear H
         have p104 : 0 ≤ (x33_2 : Int) := of_decide_eq_true (pY50)
         have q104 : x33_2 < (l0_1.length : Int) := of_decide_eq_true (pY50)
         obtain ⟨ad104, A104_1, c104_1, A104_2, c104_2, e104, hx104_0, hx104_1, hx104_2, hl104_1, hi104_1, hl104_2, hi104_2⟩ := at_T56 HR0_1.1 x33_2 p104 q104
         cases e104
         replace hx104_0 := (HB.1.cell (World.block_lt_of_cell? w _ hx104_0)).trans hx104_0
         replace hx104_1 := (HB.1.cell (World.block_lt_of_cell? w _ hx104_1)).trans hx104_1
         replace hx104_2 := (HB.1.cell (World.block_lt_of_cell? w _ hx104_2)).trans hx104_2
         have HR104_1 := Aside0.mk hi104_1
         have HC104_1 := Aside0.mk hl104_1
         clear hi104_1 hl104_1
         have HR104_2 := Aside0.mk hi104_2
         have HC104_2 := Aside0.mk hl104_2
         clear hi104_2 hl104_2
         replace p104 := eq_true p104
         replace q104 := eq_true q104
         go_upto_region 6 with (first | ((with_reducible refine gate_dst (N := 4) rfl ?_); (try (refine gate_guard (by rfl) ?_; dsimp only)); refine box_event ?hg (N := 4) ?hd (cs := #[.string (⟨#[]⟩ : ByteArray), .slice none 0 0, .slice none 0 0]) (t := 56) ?hr ?_; (case hd => rfl); (case hg => rfl); (case hr => first | (go_simp; done) | (go_simp; rfl)); intro gb105 hg w20 hbox hb; have n0_ := Aside0.mk (blk_below (g := gb101) (o := .cells #[.slice A0_0 l0_0.length c0_0, .slice (some ad104) l0_1.length c0_1] 31 (0, 0)) (pY38) hb); have n1_ := Aside0.mk (below_step (pY35) hb); have n2_ := Aside0.mk (hbox); have n3_ := Aside0.mk ((pY27 : w.heap.size ≤ gb105)); have n4_ := Aside0.mk ((pY27 : w.heap.size ≤ gb105)); have n5_ := Aside0.mk ((by rw [hg]; exact Nat.ne_of_lt (blk_lt (g := gb101) (o := .cells #[.slice A0_0 l0_0.length c0_0, .slice (some ad104) l0_1.length c0_1] 31 (0, 0)) (pY38)) : gb101 ≠ gb105)); have n6_ := Aside0.mk ((by rw [hg]; exact Nat.ne_of_gt (blk_lt (g := gb101) (o := .cells #[.slice A0_0 l0_0.length c0_0, .slice (some ad104) l0_1.length c0_1] 31 (0, 0)) (pY38)) : gb105 ≠ gb101)); clear BK101; clear HB; have BK101 := n0_; have HB := n1_; have BK105 := n2_; have GW105 := n3_; have GE105 := n4_; have NB101_105 := n5_; have NB105_101 := n6_; clear n0_ n1_ n2_ n3_ n4_ n5_ n6_; clear hb hbox hg; have hnb21 := NB105_101.1; have hnc21 := NB101_105.1; have hcz22_0 : w20.cell? ⟨gb105, 0, none⟩ = some (.string (⟨#[]⟩ : ByteArray)) := (blk_cell BK105.1 0).trans rfl; have hcz22_1 : w20.cell? ⟨gb105, 1, none⟩ = some (.slice none 0 0) := (blk_cell BK105.1 1).trans rfl; have hcz22_2 : w20.cell? ⟨gb105, 2, none⟩ = some (.slice none 0 0) := (blk_cell BK105.1 2).trans rfl; have hfz22_0 := blk_frozen BK105.1 0; have hfz22_1 := blk_frozen BK105.1 1; have hfz22_2 := blk_frozen BK105.1 2))
         (try simp only [Act.put, List.setIfInBounds_toArray, List.set_cons_zero, List.set_cons_succ])
         go_cut [73] (fun v73 wc => ∃ (kq : Nat) (x73_18 : Bool), v73 = .bool x73_18 ∧ Aside0 (impl_ShareBookOk.j2 kq x33_2 l0_1 (l0_1.length : Int) x33_2 x73_18 l0_0 l0_1 ((rd_T56 l0_1 x33_2).f0) ((rd_T56 l0_1 x33_2).f1) ((rd_T56 l0_1 x33_2).f2) = some r) ∧ Aside0 (kq ≤ k2) ∧ Aside0 (wc.heap[gb101]? = some (.cells #[(.slice A0_0 l0_0.length c0_0), (.slice (some ad104) l0_1.length c0_1)] 31 (0, 0))) ∧ Aside0 (wc.heap[gb105]? = some (.cells #[.string ((rd_T56 l0_1 x33_2).f0), (.slice A104_1 ((rd_T56 l0_1 x33_2).f1).length c104_1), (.slice A104_2 ((rd_T56 l0_1 x33_2).f2).length c104_2)] 56 (0, 0))) ∧ Aside0 (Below w.heap.size w wc))
         case first =>
          have H := HC19.1
          clear HC19
          replace H := Option.bind_eq_some_iff.mp H
          obtain ⟨t106, A230, H⟩ := H
          replace H : (if t106 = true then (if x33_2 > 0 then (if 0 ≤ (wrap64 (x33_2 - 1)) then (if (wrap64 (x33_2 - 1)) < (l0_1.length : Int) then (if ((Op.bytesLess (((rd_T56 l0_1 (wrap64 (x33_2 - 1))).f0).toList) (((rd_T56 l0_1 x33_2).f0).toList)) = true) then ((impl_of.f k2 ((rd_T56 l0_1 x33_2).f2) l0_0).bind fun t108 => (if t108 = true then ((impl_of.f k2 ((rd_T56 l0_1 x33_2).f1) ((rd_T56 l0_1 x33_2).f2)).bind fun t109 => (impl_ShareBookOk.j2 k2 x33_2 l0_1 (l0_1.length : Int) x33_2 (!t109) l0_0 l0_1 ((rd_T56 l0_1 x33_2).f0) ((rd_T56 l0_1 x33_2).f1) ((rd_T56 l0_1 x33_2).f2))) else (impl_ShareBookOk.j2 k2 x33_2 l0_1 (l0_1.length : Int) x33_2 true l0_0 l0_1 ((rd_T56 l0_1 x33_2).f0) ((rd_T56 l0_1 x33_2).f1) ((rd_T56 l0_1 x33_2).f2)))) else (impl_ShareBookOk.j2 k2 x33_2 l0_1 (l0_1.length : Int) x33_2 true l0_0 l0_1 ((rd_T56 l0_1 x33_2).f0) ((rd_T56 l0_1 x33_2).f1) ((rd_T56 l0_1 x33_2).f2))) else (none)) else (none)) else ((impl_of.f k2 ((rd_T56 l0_1 x33_2).f2) l0_0).bind fun t110 => (if t110 = true then ((impl_of.f k2 ((rd_T56 l0_1 x33_2).f1) ((rd_T56 l0_1 x33_2).f2)).bind fun t111 => (impl_ShareBookOk.j2 k2 x33_2 l0_1 (l0_1.length : Int) x33_2 (!t111) l0_0 l0_1 ((rd_T56 l0_1 x33_2).f0) ((rd_T56 l0_1 x33_2).f1) ((rd_T56 l0_1 x33_2).f2))) else (impl_ShareBookOk.j2 k2 x33_2 l0_1 (l0_1.length : Int) x33_2 true l0_0 l0_1 ((rd_T56 l0_1 x33_2).f0) ((rd_T56 l0_1 x33_2).f1) ((rd_T56 l0_1 x33_2).f2))))) else (impl_ShareBookOk.j2 k2 x33_2 l0_1 (l0_1.length : Int) x33_2 true l0_0 l0_1 ((rd_T56 l0_1 x33_2).f0) ((rd_T56 l0_1 x33_2).f1) ((rd_T56 l0_1 x33_2).f2))) = some r := H
          have A23 := Aside0.mk A230
          clear A230
          by_cases c24 : t106 = true
          ·subst c24
           have H1 : (if x33_2 > 0 then (if 0 ≤ (wrap64 (x33_2 - 1)) then (if (wrap64 (x33_2 - 1)) < (l0_1.length : Int) then (if ((Op.bytesLess (((rd_T56 l0_1 (wrap64 (x33_2 - 1))).f0).toList) (((rd_T56 l0_1 x33_2).f0).toList)) = true) then ((impl_of.f k2 ((rd_T56 l0_1 x33_2).f2) l0_0).bind fun t108 => (if t108 = true then ((impl_of.f k2 ((rd_T56 l0_1 x33_2).f1) ((rd_T56 l0_1 x33_2).f2)).bind fun t109 => (impl_ShareBookOk.j2 k2 x33_2 l0_1 (l0_1.length : Int) x33_2 (!t109) l0_0 l0_1 ((rd_T56 l0_1 x33_2).f0) ((rd_T56 l0_1 x33_2).f1) ((rd_T56 l0_1 x33_2).f2))) else (impl_ShareBookOk.j2 k2 x33_2 l0_1 (l0_1.length : Int) x33_2 true l0_0 l0_1 ((rd_T56 l0_1 x33_2).f0) ((rd_T56 l0_1 x33_2).f1) ((rd_T56 l0_1 x33_2).f2)))) else (impl_ShareBookOk.j2 k2 x33_2 l0_1 (l0_1.length : Int) x33_2 true l0_0 l0_1 ((rd_T56 l0_1 x33_2).f0) ((rd_T56 l0_1 x33_2).f1) ((rd_T56 l0_1 x33_2).f2))) else (none)) else (none)) else ((impl_of.f k2 ((rd_T56 l0_1 x33_2).f2) l0_0).bind fun t110 => (if t110 = true then ((impl_of.f k2 ((rd_T56 l0_1 x33_2).f1) ((rd_T56 l0_1 x33_2).f2)).bind fun t111 => (impl_ShareBookOk.j2 k2 x33_2 l0_1 (l0_1.length : Int) x33_2 (!t111) l0_0 l0_1 ((rd_T56 l0_1 x33_2).f0) ((rd_T56 l0_1 x33_2).f1) ((rd_T56 l0_1 x33_2).f2))) else (impl_ShareBookOk.j2 k2 x33_2 l0_1 (l0_1.length : Int) x33_2 true l0_0 l0_1 ((rd_T56 l0_1 x33_2).f0) ((rd_T56 l0_1 x33_2).f1) ((rd_T56 l0_1 x33_2).f2))))) = some r := by rw [if_pos rfl] at H; exact H
           clear H
           have H := H1
           clear H1
           by_cases c25 : x33_2 > 0
           ·rw [if_pos c25] at H
            have c25b0 : decide (0 < x33_2) = true := decide_eq_true c25
            clear c25
            (first | rw [c25b0] | (simp only [i64_w, i32_w]; rw [c25b0]) | skip)
            obtain ⟨ji26, hji26⟩ : ∃ j_ : Int, (wrap64 (x33_2 - 1)) = j_ := ⟨_, rfl⟩
            replace H : (if 0 ≤ (ji26) then (if (ji26) < (l0_1.length : Int) then (if ((Op.bytesLess (((rd_T56 l0_1 (ji26)).f0).toList) (((rd_T56 l0_1 x33_2).f0).toList)) = true) then ((impl_of.f k2 ((rd_T56 l0_1 x33_2).f2) l0_0).bind fun t108 => (if t108 = true then ((impl_of.f k2 ((rd_T56 l0_1 x33_2).f1) ((rd_T56 l0_1 x33_2).f2)).bind fun t109 => (impl_ShareBookOk.j2 k2 x33_2 l0_1 (l0_1.length : Int) x33_2 (!t109) l0_0 l0_1 ((rd_T56 l0_1 x33_2).f0) ((rd_T56 l0_1 x33_2).f1) ((rd_T56 l0_1 x33_2).f2))) else (impl_ShareBookOk.j2 k2 x33_2 l0_1 (l0_1.length : Int) x33_2 true l0_0 l0_1 ((rd_T56 l0_1 x33_2).f0) ((rd_T56 l0_1 x33_2).f1) ((rd_T56 l0_1 x33_2).f2)))) else (impl_ShareBookOk.j2 k2 x33_2 l0_1 (l0_1.length : Int) x33_2 true l0_0 l0_1 ((rd_T56 l0_1 x33_2).f0) ((rd_T56 l0_1 x33_2).f1) ((rd_T56 l0_1 x33_2).f2))) else (none)) else (none)) = some r := by first | (rw [hji26] at H; exact H) | (simp only [hji26] at H ⊢; exact H)
            (try rw [hji26] at A23)
            have hji26w : (IntKind.i64.wrap (x33_2 - 1)) = ji26 := (i64_w _).trans hji26
            by_cases c27 : 0 ≤ (ji26)
            ·rw [if_pos c27] at H
             have c27b0 : decide (0 ≤ (ji26)) = true := decide_eq_true c27
             clear c27
             by_cases c28 : (ji26) < (l0_1.length : Int)
             ·rw [if_pos c28] at H
              have c28b0 : decide ((ji26) < (l0_1.length : Int)) = true := decide_eq_true c28
              clear c28
              by_cases c29 : ((Op.bytesLess (((rd_T56 l0_1 (ji26)).f0).toList) (((rd_T56 l0_1 x33_2).f0).toList)) = true)
              ·rw [if_pos c29] at H
               have c29b0 : (Op.bytesLess (((rd_T56 l0_1 (ji26)).f0).toList) (((rd_T56 l0_1 x33_2).f0).toList)) = true := c29
               clear c29
               replace H := Option.bind_eq_some_iff.mp H
               obtain ⟨t108, A300, H⟩ := H
               replace H : (if t108 = true then ((impl_of.f k2 ((rd_T56 l0_1 x33_2).f1) ((rd_T56 l0_1 x33_2).f2)).bind fun t109 => (impl_ShareBookOk.j2 k2 x33_2 l0_1 (l0_1.length : Int) x33_2 (!t109) l0_0 l0_1 ((rd_T56 l0_1 x33_2).f0) ((rd_T56 l0_1 x33_2).f1) ((rd_T56 l0_1 x33_2).f2))) else (impl_ShareBookOk.j2 k2 x33_2 l0_1 (l0_1.length : Int) x33_2 true l0_0 l0_1 ((rd_T56 l0_1 x33_2).f0) ((rd_T56 l0_1 x33_2).f1) ((rd_T56 l0_1 x33_2).f2))) = some r := H
               have A30 := Aside0.mk A300
               clear A300
               by_cases c31 : t108 = true
               ·subst c31
                have H1 : ((impl_of.f k2 ((rd_T56 l0_1 x33_2).f1) ((rd_T56 l0_1 x33_2).f2)).bind fun t109 => (impl_ShareBookOk.j2 k2 x33_2 l0_1 (l0_1.length : Int) x33_2 (!t109) l0_0 l0_1 ((rd_T56 l0_1 x33_2).f0) ((rd_T56 l0_1 x33_2).f1) ((rd_T56 l0_1 x33_2).f2))) = some r := by rw [if_pos rfl] at H; exact H
                clear H
                have H := H1
                clear H1
                replace H := Option.bind_eq_some_iff.mp H
                obtain ⟨t109, A320, H⟩ := H
                replace H : (impl_ShareBookOk.j2 k2 x33_2 l0_1 (l0_1.length : Int) x33_2 (!t109) l0_0 l0_1 ((rd_T56 l0_1 x33_2).f0) ((rd_T56 l0_1 x33_2).f1) ((rd_T56 l0_1 x33_2).f2)) = some r := H
                have A32 := Aside0.mk A320
                clear A320
                have H' := Aside0.mk H
                clear H
                try go_wp2
                have n0_ : Aside0 ((((w20.setCell ⟨gb105, 0, none⟩ (.string ((rd_T56 l0_1 x33_2).f0))).setCell ⟨gb105, 1, none⟩ (.slice A104_1 ((rd_T56 l0_1 x33_2).f1).length c104_1)).setCell ⟨gb105, 2, none⟩ (.slice A104_2 ((rd_T56 l0_1 x33_2).f2).length c104_2)).heap[gb101]? = some (.cells #[.slice A0_0 l0_0.length c0_0, .slice (some ad104) l0_1.length c0_1] 31 (0, 0))) := ⟨by (with_reducible repeat (first | refine blk_drewN ?_ _ | refine blk_drew ?_ | refine blk_alloc ?_ _)); refine blk_far ?_ NB101_105.1 _; (with_reducible repeat (first | refine blk_drewN ?_ _ | refine blk_drew ?_ | refine blk_alloc ?_ _)); refine blk_far ?_ NB101_105.1 _; (with_reducible repeat (first | refine blk_drewN ?_ _ | refine blk_drew ?_ | refine blk_alloc ?_ _)); refine blk_far ?_ NB101_105.1 _; (with_reducible repeat (first | refine blk_drewN ?_ _ | refine blk_drew ?_ | refine blk_alloc ?_ _)); exact BK101.1⟩
                have n1_ : Aside0 ((((w20.setCell ⟨gb105, 0, none⟩ (.string ((rd_T56 l0_1 x33_2).f0))).setCell ⟨gb105, 1, none⟩ (.slice A104_1 ((rd_T56 l0_1 x33_2).f1).length c104_1)).setCell ⟨gb105, 2, none⟩ (.slice A104_2 ((rd_T56 l0_1 x33_2).f2).length c104_2)).heap[gb105]? = some (.cells #[.string ((rd_T56 l0_1 x33_2).f0), .slice A104_1 ((rd_T56 l0_1 x33_2).f1).length c104_1, .slice A104_2 ((rd_T56 l0_1 x33_2).f2).length c104_2] 56 (0, 0))) := ⟨by (with_reducible repeat (first | refine blk_drewN ?_ _ | refine blk_drew ?_ | refine blk_alloc ?_ _)); refine blk_put (cs := #[.string ((rd_T56 l0_1 x33_2).f0), .slice A104_1 ((rd_T56 l0_1 x33_2).f1).length c104_1, .slice none 0 0]) ?_ 2 _ rfl; (with_reducible repeat (first | refine blk_drewN ?_ _ | refine blk_drew ?_ | refine blk_alloc ?_ _)); refine blk_put (cs := #[.string ((rd_T56 l0_1 x33_2).f0), .slice none 0 0, .slice none 0 0]) ?_ 1 _ rfl; (with_reducible repeat (first | refine blk_drewN ?_ _ | refine blk_drew ?_ | refine blk_alloc ?_ _)); refine blk_put (cs := #[.string (⟨#[]⟩ : ByteArray), .slice none 0 0, .slice none 0 0]) ?_ 0 _ rfl; (with_reducible repeat (first | refine blk_drewN ?_ _ | refine blk_drew ?_ | refine blk_alloc ?_ _)); exact BK105.1⟩
                have n2_ : Aside0 (Below w.heap.size w (((w20.setCell ⟨gb105, 0, none⟩ (.string ((rd_T56 l0_1 x33_2).f0))).setCell ⟨gb105, 1, none⟩ (.slice A104_1 ((rd_T56 l0_1 x33_2).f1).length c104_1)).setCell ⟨gb105, 2, none⟩ (.slice A104_2 ((rd_T56 l0_1 x33_2).f2).length c104_2))) := ⟨pY30⟩
                (try clear BK101)
                (try clear BK105)
                (try clear HB)
                generalize (((w20.setCell ⟨gb105, 0, none⟩ (.string ((rd_T56 l0_1 x33_2).f0))).setCell ⟨gb105, 1, none⟩ (.slice A104_1 ((rd_T56 l0_1 x33_2).f1).length c104_1)).setCell ⟨gb105, 2, none⟩ (.slice A104_2 ((rd_T56 l0_1 x33_2).f2).length c104_2)) = w33 at n0_ n1_ n2_ ⊢
                have BK101 := n0_
                have BK105 := n1_
                have HB := n2_
                clear n0_ n1_ n2_
                have n0_ := Aside0.mk (blk_drew BK101.1)
                have n1_ := Aside0.mk (blk_drew BK105.1)
                have n2_ := Aside0.mk (below_drew1 HB.1)
                clear BK101
                clear BK105
                clear HB
                have BK101 := n0_
                have BK105 := n1_
                have HB := n2_
                clear n0_ n1_ n2_
                have p107 : 0 ≤ ((ji26) : Int) := of_decide_eq_true (pY50)
                have q107 : (ji26) < (l0_1.length : Int) := of_decide_eq_true (pY50)
                obtain ⟨ad107, A107_1, c107_1, A107_2, c107_2, e107, hx107_0, hx107_1, hx107_2, hl107_1, hi107_1, hl107_2, hi107_2⟩ := at_T56 HR0_1.1 (ji26) p107 q107
                have hw107_2 := hx107_2
                have hw107_1 := hx107_1
                have hw107_0 := hx107_0
                obtain rfl : ad104 = ad107 := (by injection e107)
                replace hx107_0 := (HB.1.cell (World.block_lt_of_cell? w _ hx107_0)).trans hx107_0
                replace hx107_1 := (HB.1.cell (World.block_lt_of_cell? w _ hx107_1)).trans hx107_1
                replace hx107_2 := (HB.1.cell (World.block_lt_of_cell? w _ hx107_2)).trans hx107_2
                have HR107_1 := Aside0.mk hi107_1
                have HC107_1 := Aside0.mk hl107_1
                clear hi107_1 hl107_1
                have HR107_2 := Aside0.mk hi107_2
                have HC107_2 := Aside0.mk hl107_2
                clear hi107_2 hl107_2
                replace p107 := eq_true p107
                replace q107 := eq_true q107
                refine start_ (n := 36) (S := fun w' => w'.cell? ⟨gb105, 0, none⟩ = some (.string ((rd_T56 l0_1 x33_2).f0)) ∧ w'.cell? ⟨gb105, 1, none⟩ = some (.slice A104_1 ((rd_T56 l0_1 x33_2).f1).length c104_1) ∧ w'.cell? ⟨gb105, 2, none⟩ = some (.slice A104_2 ((rd_T56 l0_1 x33_2).f2).length c104_2) ∧ w'.cell? ⟨gb101, 0, none⟩ = some (.slice A0_0 l0_0.length c0_0) ∧ w'.cell? ⟨gb101, 1, none⟩ = some (.slice (some ad104) l0_1.length c0_1) ∧ w'.cell? (ad104.add (((ji26)).toNat * 3)) = some (.string ((rd_T56 l0_1 (ji26)).f0)) ∧ w'.cell? ⟨(ad104.add (((ji26)).toNat * 3)).block, (ad104.add (((ji26)).toNat * 3)).off + 1, none⟩ = some (.slice A107_1 ((rd_T56 l0_1 (ji26)).f1).length c107_1) ∧ w'.cell? ⟨(ad104.add (((ji26)).toNat * 3)).block, (ad104.add (((ji26)).toNat * 3)).off + 2, none⟩ = some (.slice A107_2 ((rd_T56 l0_1 (ji26)).f2).length c107_2)) (ds := []) #[ff,ff,ff,ff,ff,ff,ff,ff,ff,ff,ff,ff,ff,ff,ff,ff,ff,ff,ff,ff,ff,ff,ff,ff,ff,ff,ff,ff,ff,ff,ff,ff,ff,ff,ff,ff] (by kernel_rfl) rfl rfl ⟨(blk_cell BK105.1 0).trans rfl, (blk_cell BK105.1 1).trans rfl, (blk_cell BK105.1 2).trans rfl, (blk_cell BK101.1 0).trans rfl, (blk_cell BK101.1 1).trans rfl, ((HB.1.cell (World.block_lt_of_cell? w _ hw107_0)).trans hw107_0), ((HB.1.cell (World.block_lt_of_cell? w _ hw107_1)).trans hw107_1), ((HB.1.cell (World.block_lt_of_cell? w _ hw107_2)).trans hw107_2)⟩ (fun hHeld => ?_); refine with_tabW impl_ShareBookOk.tab6 impl_ShareBookOk.bits6 (fun HT_ HW_ => ?_)
                generalize w33.drew = w34 at BK101 BK105 HB HR107_1 HR107_2 hx107_0 hx107_1 hx107_2 hHeld ⊢
                refine pU (i := 0) (N := some 38) #[tt,ff,ff,ff,ff,ff,ff,ff,ff,ff,ff,ff,ff,ff,ff,ff,ff,ff,ff,ff,ff,ff,ff,ff,ff,ff,ff,ff,ff,ff,ff,ff,ff,ff,ff,ff] ?_
                refine tK8 (i := 1) (N := some 39) #[tt,tt,ff,ff,ff,ff,ff,ff,ff,ff,ff,ff,ff,ff,ff,ff,ff,ff,ff,ff,ff,ff,ff,ff,ff,ff,ff,ff,ff,ff,ff,ff,ff,ff,ff,ff] ?_
                refine one_ (i := 2) (N := some 40) #[tt,tt,tt,ff,ff,ff,ff,ff,ff,ff,ff,ff,ff,ff,ff,ff,ff,ff,ff,ff,ff,ff,ff,ff,ff,ff,ff,ff,ff,ff,ff,ff,ff,ff,ff,ff] rfl rfl (one_of HT_.out (by kernel_rfl)) (by decide) (fun K hK => ?_)
                refine goes_ Try.func77 (by kernel_rfl) rfl #[.string ((rd_T56 l0_1 x33_2).f0)] (by rfl) rfl rfl (pY36) ?_
                with_reducible refine (impl_name.calls k2 ((rd_T56 l0_1 x33_2).f0) true _ A23.out).mono ?_
                rintro e w' ⟨rfl, ⟨nd, rfl⟩⟩
                refine ⟨_, rfl, ?_⟩
                refine hK.out _ _ ⟨(blk_cell BK105.1 0).trans rfl, (blk_cell BK105.1 1).trans rfl, (blk_cell BK105.1 2).trans rfl, (blk_cell BK101.1 0).trans rfl, (blk_cell BK101.1 1).trans rfl, ((HB.1.cell (World.block_lt_of_cell? w _ hw107_0)).trans hw107_0), ((HB.1.cell (World.block_lt_of_cell? w _ hw107_1)).trans hw107_1), ((HB.1.cell (World.block_lt_of_cell? w _ hw107_2)).trans hw107_2)⟩ (fun hHeld => ?_)
                clear hK K
                refine norm_ (a' := ?_) ?_ ?_
                rotate_left
                ·show Act.put _ (some 40) _ = _
                 simp only [pW]
                 rfl
                refine pU (i := 3) (N := some 41) #[tt,tt,tt,tt,ff,ff,ff,ff,ff,ff,ff,ff,ff,ff,ff,ff,ff,ff,ff,ff,ff,ff,ff,ff,ff,ff,ff,ff,ff,ff,ff,ff,ff,ff,ff,ff] ?_
                refine pU (i := 4) (N := some 42) #[tt,tt,tt,tt,tt,ff,ff,ff,ff,ff,ff,ff,ff,ff,ff,ff,ff,ff,ff,ff,ff,ff,ff,ff,ff,ff,ff,ff,ff,ff,ff,ff,ff,ff,ff,ff] ?_
                refine pU (i := 5) (N := some 43) #[tt,tt,tt,tt,tt,tt,ff,ff,ff,ff,ff,ff,ff,ff,ff,ff,ff,ff,ff,ff,ff,ff,ff,ff,ff,ff,ff,ff,ff,ff,ff,ff,ff,ff,ff,ff] ?_
                refine pU (i := 6) (N := some 44) #[tt,tt,tt,tt,tt,tt,tt,ff,ff,ff,ff,ff,ff,ff,ff,ff,ff,ff,ff,ff,ff,ff,ff,ff,ff,ff,ff,ff,ff,ff,ff,ff,ff,ff,ff,ff] ?_
                refine pU (i := 7) (N := some 45) #[tt,tt,tt,tt,tt,tt,tt,tt,ff,ff,ff,ff,ff,ff,ff,ff,ff,ff,ff,ff,ff,ff,ff,ff,ff,ff,ff,ff,ff,ff,ff,ff,ff,ff,ff,ff] ?_
                refine pU (i := 8) (N := some 46) #[tt,tt,tt,tt,tt,tt,tt,tt,tt,ff,ff,ff,ff,ff,ff,ff,ff,ff,ff,ff,ff,ff,ff,ff,ff,ff,ff,ff,ff,ff,ff,ff,ff,ff,ff,ff] ?_
                refine pU (i := 10) (N := some 48) #[tt,tt,tt,tt,tt,tt,tt,tt,tt,ff,tt,ff,ff,ff,ff,ff,ff,ff,ff,ff,ff,ff,ff,ff,ff,ff,ff,ff,ff,ff,ff,ff,ff,ff,ff,ff] ?_
                refine pU (i := 11) (N := some 49) #[tt,tt,tt,tt,tt,tt,tt,tt,tt,ff,tt,tt,ff,ff,ff,ff,ff,ff,ff,ff,ff,ff,ff,ff,ff,ff,ff,ff,ff,ff,ff,ff,ff,ff,ff,ff] ?_
                refine pU (i := 15) (N := some 53) #[tt,tt,tt,tt,tt,tt,tt,tt,tt,ff,tt,tt,ff,ff,ff,tt,ff,ff,ff,ff,ff,ff,ff,ff,ff,ff,ff,ff,ff,ff,ff,ff,ff,ff,ff,ff] ?_
                refine tK8 (i := 9) (N := some 47) #[tt,tt,tt,tt,tt,tt,tt,tt,tt,tt,tt,tt,ff,ff,ff,tt,ff,ff,ff,ff,ff,ff,ff,ff,ff,ff,ff,ff,ff,ff,ff,ff,ff,ff,ff,ff] ?_
                refine pU (i := 12) (N := some 50) #[tt,tt,tt,tt,tt,tt,tt,tt,tt,tt,tt,tt,tt,ff,ff,tt,ff,ff,ff,ff,ff,ff,ff,ff,ff,ff,ff,ff,ff,ff,ff,ff,ff,ff,ff,ff] ?_
                refine pU (i := 13) (N := some 51) #[tt,tt,tt,tt,tt,tt,tt,tt,tt,tt,tt,tt,tt,tt,ff,tt,ff,ff,ff,ff,ff,ff,ff,ff,ff,ff,ff,ff,ff,ff,ff,ff,ff,ff,ff,ff] ?_
                refine tK8 (i := 14) (N := some 52) #[tt,tt,tt,tt,tt,tt,tt,tt,tt,tt,tt,tt,tt,tt,tt,tt,ff,ff,ff,ff,ff,ff,ff,ff,ff,ff,ff,ff,ff,ff,ff,ff,ff,ff,ff,ff] ?_
                refine tK8 (i := 16) (N := some 54) #[tt,tt,tt,tt,tt,tt,tt,tt,tt,tt,tt,tt,tt,tt,tt,tt,tt,ff,ff,ff,ff,ff,ff,ff,ff,ff,ff,ff,ff,ff,ff,ff,ff,ff,ff,ff] ?_
                refine pU (i := 17) (N := some 55) #[tt,tt,tt,tt,tt,tt,tt,tt,tt,tt,tt,tt,tt,tt,tt,tt,tt,tt,ff,ff,ff,ff,ff,ff,ff,ff,ff,ff,ff,ff,ff,ff,ff,ff,ff,ff] ?_
                refine pU (i := 18) (N := some 56) #[tt,tt,tt,tt,tt,tt,tt,tt,tt,tt,tt,tt,tt,tt,tt,tt,tt,tt,tt,ff,ff,ff,ff,ff,ff,ff,ff,ff,ff,ff,ff,ff,ff,ff,ff,ff] ?_
                refine pU (i := 19) (N := some 57) #[tt,tt,tt,tt,tt,tt,tt,tt,tt,tt,tt,tt,tt,tt,tt,tt,tt,tt,tt,tt,ff,ff,ff,ff,ff,ff,ff,ff,ff,ff,ff,ff,ff,ff,ff,ff] ?_
                refine pU (i := 20) (N := some 58) #[tt,tt,tt,tt,tt,tt,tt,tt,tt,tt,tt,tt,tt,tt,tt,tt,tt,tt,tt,tt,tt,ff,ff,ff,ff,ff,ff,ff,ff,ff,ff,ff,ff,ff,ff,ff] ?_
                refine pU (i := 21) (N := some 59) #[tt,tt,tt,tt,tt,tt,tt,tt,tt,tt,tt,tt,tt,tt,tt,tt,tt,tt,tt,tt,tt,tt,ff,ff,ff,ff,ff,ff,ff,ff,ff,ff,ff,ff,ff,ff] ?_
                refine pU (i := 23) (N := some 61) #[tt,tt,tt,tt,tt,tt,tt,tt,tt,tt,tt,tt,tt,tt,tt,tt,tt,tt,tt,tt,tt,tt,ff,tt,ff,ff,ff,ff,ff,ff,ff,ff,ff,ff,ff,ff] ?_
                refine tK8 (i := 22) (N := some 60) #[tt,tt,tt,tt,tt,tt,tt,tt,tt,tt,tt,tt,tt,tt,tt,tt,tt,tt,tt,tt,tt,tt,tt,tt,ff,ff,ff,ff,ff,ff,ff,ff,ff,ff,ff,ff] ?_
                refine tK8 (i := 24) (N := some 62) #[tt,tt,tt,tt,tt,tt,tt,tt,tt,tt,tt,tt,tt,tt,tt,tt,tt,tt,tt,tt,tt,tt,tt,tt,tt,ff,ff,ff,ff,ff,ff,ff,ff,ff,ff,ff] ?_
                refine one_ (i := 25) (N := some 63) #[tt,tt,tt,tt,tt,tt,tt,tt,tt,tt,tt,tt,tt,tt,tt,tt,tt,tt,tt,tt,tt,tt,tt,tt,tt,tt,ff,ff,ff,ff,ff,ff,ff,ff,ff,ff] rfl rfl (one_of HT_.out (by kernel_rfl)) (by decide) (fun K hK => ?_)
                refine goes_ Try.func74 (by kernel_rfl) rfl #[.slice A104_2 ((rd_T56 l0_1 x33_2).f2).length c104_2, .slice A0_0 l0_0.length c0_0] (by rfl) rfl rfl (pY36) ?_
                with_reducible refine (impl_of.calls k2 _ _ ((rd_T56 l0_1 x33_2).f2) _ _ l0_0 true _ ?side1 ?side2 ?side3 ?side4 A30.out).mono ?_
                (case side1 => exact pC (Kd.C_below HR104_2.1 (pY30)))
                (case side2 => exact HC104_2.1)
                (case side3 => exact pC (Kd.C_below HR0_0.1 (pY30)))
                (case side4 => exact HC0_0.1)
                rintro e w' ⟨rfl, ⟨nd, rfl⟩⟩
                refine ⟨_, rfl, ?_⟩
                refine hK.out _ _ ⟨(blk_cell BK105.1 0).trans rfl, (blk_cell BK105.1 1).trans rfl, (blk_cell BK105.1 2).trans rfl, (blk_cell BK101.1 0).trans rfl, (blk_cell BK101.1 1).trans rfl, ((HB.1.cell (World.block_lt_of_cell? w _ hw107_0)).trans hw107_0), ((HB.1.cell (World.block_lt_of_cell? w _ hw107_1)).trans hw107_1), ((HB.1.cell (World.block_lt_of_cell? w _ hw107_2)).trans hw107_2)⟩ (fun hHeld => ?_)
                clear hK K
                refine norm_ (a' := ?_) ?_ ?_
                rotate_left
                ·show Act.put _ (some 63) _ = _
                 simp only [pW]
                 rfl
                refine pU (i := 26) (N := some 64) #[tt,tt,tt,tt,tt,tt,tt,tt,tt,tt,tt,tt,tt,tt,tt,tt,tt,tt,tt,tt,tt,tt,tt,tt,tt,tt,tt,ff,ff,ff,ff,ff,ff,ff,ff,ff] ?_
                refine pU (i := 27) (N := some 65) #[tt,tt,tt,tt,tt,tt,tt,tt,tt,tt,tt,tt,tt,tt,tt,tt,tt,tt,tt,tt,tt,tt,tt,tt,tt,tt,tt,tt,ff,ff,ff,ff,ff,ff,ff,ff] ?_
                refine pU (i := 28) (N := some 66) #[tt,tt,tt,tt,tt,tt,tt,tt,tt,tt,tt,tt,tt,tt,tt,tt,tt,tt,tt,tt,tt,tt,tt,tt,tt,tt,tt,tt,tt,ff,ff,ff,ff,ff,ff,ff] ?_
                refine pU (i := 29) (N := some 67) #[tt,tt,tt,tt,tt,tt,tt,tt,tt,tt,tt,tt,tt,tt,tt,tt,tt,tt,tt,tt,tt,tt,tt,tt,tt,tt,tt,tt,tt,tt,ff,ff,ff,ff,ff,ff] ?_
                refine pU (i := 31) (N := some 69) #[tt,tt,tt,tt,tt,tt,tt,tt,tt,tt,tt,tt,tt,tt,tt,tt,tt,tt,tt,tt,tt,tt,tt,tt,tt,tt,tt,tt,tt,tt,ff,tt,ff,ff,ff,ff] ?_
                refine tK8 (i := 30) (N := some 68) #[tt,tt,tt,tt,tt,tt,tt,tt,tt,tt,tt,tt,tt,tt,tt,tt,tt,tt,tt,tt,tt,tt,tt,tt,tt,tt,tt,tt,tt,tt,tt,tt,ff,ff,ff,ff] ?_
                refine tK8 (i := 32) (N := some 70) #[tt,tt,tt,tt,tt,tt,tt,tt,tt,tt,tt,tt,tt,tt,tt,tt,tt,tt,tt,tt,tt,tt,tt,tt,tt,tt,tt,tt,tt,tt,tt,tt,tt,ff,ff,ff] ?_
                refine one_ (i := 33) (N := some 71) #[tt,tt,tt,tt,tt,tt,tt,tt,tt,tt,tt,tt,tt,tt,tt,tt,tt,tt,tt,tt,tt,tt,tt,tt,tt,tt,tt,tt,tt,tt,tt,tt,tt,tt,ff,ff] rfl rfl (one_of HT_.out (by kernel_rfl)) (by decide) (fun K hK => ?_)
                refine goes_ Try.func74 (by kernel_rfl) rfl #[.slice A104_1 ((rd_T56 l0_1 x33_2).f1).length c104_1, .slice A104_2 ((rd_T56 l0_1 x33_2).f2).length c104_2] (by rfl) rfl rfl (pY36) ?_
                with_reducible refine (impl_of.calls k2 _ _ ((rd_T56 l0_1 x33_2).f1) _ _ ((rd_T56 l0_1 x33_2).f2) t109 _ ?side1 ?side2 ?side3 ?side4 A32.out).mono ?_
                (case side1 => exact pC (Kd.C_below HR104_1.1 (pY30)))
                (case side2 => exact HC104_1.1)
                (case side3 => exact pC (Kd.C_below HR104_2.1 (pY30)))
                (case side4 => exact HC104_2.1)
                rintro e w' ⟨rfl, ⟨nd, rfl⟩⟩
                refine ⟨_, rfl, ?_⟩
                refine hK.out _ _ ⟨(blk_cell BK105.1 0).trans rfl, (blk_cell BK105.1 1).trans rfl, (blk_cell BK105.1 2).trans rfl, (blk_cell BK101.1 0).trans rfl, (blk_cell BK101.1 1).trans rfl, ((HB.1.cell (World.block_lt_of_cell? w _ hw107_0)).trans hw107_0), ((HB.1.cell (World.block_lt_of_cell? w _ hw107_1)).trans hw107_1), ((HB.1.cell (World.block_lt_of_cell? w _ hw107_2)).trans hw107_2)⟩ (fun hHeld => ?_)
                clear hK K
                refine norm_ (a' := ?_) ?_ ?_
                rotate_left
                ·show Act.put _ (some 71) _ = _
                 simp only [pW]
                 rfl
                refine pU (i := 34) (N := some 72) #[tt,tt,tt,tt,tt,tt,tt,tt,tt,tt,tt,tt,tt,tt,tt,tt,tt,tt,tt,tt,tt,tt,tt,tt,tt,tt,tt,tt,tt,tt,tt,tt,tt,tt,tt,ff] ?_
                refine pU (i := 35) (N := some 73) #[tt,tt,tt,tt,tt,tt,tt,tt,tt,tt,tt,tt,tt,tt,tt,tt,tt,tt,tt,tt,tt,tt,tt,tt,tt,tt,tt,tt,tt,tt,tt,tt,tt,tt,tt,tt] ?_
                refine done_ (done_of HT_.out (by kernel_rfl)) ?_
                try go_wp2
                go_meet
                case rel => exact ⟨_, (!t109), (pY51), H', ⟨by have := HJ1.out; have := HK2.out; first | omega | exact Nat.le_refl _⟩, ⟨by (with_reducible repeat (first | refine blk_drewN ?_ _ | refine blk_drew ?_ | refine blk_alloc ?_ _)); exact BK101.1⟩, ⟨by (with_reducible repeat (first | refine blk_drewN ?_ _ | refine blk_drew ?_ | refine blk_alloc ?_ _)); exact BK105.1⟩, ⟨pY30⟩⟩
               ·replace c31 := Bool.eq_false_iff.mpr c31
                subst c31
                have H1 : (impl_ShareBookOk.j2 k2 x33_2 l0_1 (l0_1.length : Int) x33_2 true l0_0 l0_1 ((rd_T56 l0_1 x33_2).f0) ((rd_T56 l0_1 x33_2).f1) ((rd_T56 l0_1 x33_2).f2)) = some r := by rw [if_neg (show ¬ (false = true) by decide)] at H; exact H
                clear H
                have H := H1
                clear H1
                have H' := Aside0.mk H
                clear H
                try go_wp2
                have n0_ : Aside0 ((((w20.setCell ⟨gb105, 0, none⟩ (.string ((rd_T56 l0_1 x33_2).f0))).setCell ⟨gb105, 1, none⟩ (.slice A104_1 ((rd_T56 l0_1 x33_2).f1).length c104_1)).setCell ⟨gb105, 2, none⟩ (.slice A104_2 ((rd_T56 l0_1 x33_2).f2).length c104_2)).heap[gb101]? = some (.cells #[.slice A0_0 l0_0.length c0_0, .slice (some ad104) l0_1.length c0_1] 31 (0, 0))) := ⟨by (with_reducible repeat (first | refine blk_drewN ?_ _ | refine blk_drew ?_ | refine blk_alloc ?_ _)); refine blk_far ?_ NB101_105.1 _; (with_reducible repeat (first | refine blk_drewN ?_ _ | refine blk_drew ?_ | refine blk_alloc ?_ _)); refine blk_far ?_ NB101_105.1 _; (with_reducible repeat (first | refine blk_drewN ?_ _ | refine blk_drew ?_ | refine blk_alloc ?_ _)); refine blk_far ?_ NB101_105.1 _; (with_reducible repeat (first | refine blk_drewN ?_ _ | refine blk_drew ?_ | refine blk_alloc ?_ _)); exact BK101.1⟩
                have n1_ : Aside0 ((((w20.setCell ⟨gb105, 0, none⟩ (.string ((rd_T56 l0_1 x33_2).f0))).setCell ⟨gb105, 1, none⟩ (.slice A104_1 ((rd_T56 l0_1 x33_2).f1).length c104_1)).setCell ⟨gb105, 2, none⟩ (.slice A104_2 ((rd_T56 l0_1 x33_2).f2).length c104_2)).heap[gb105]? = some (.cells #[.string ((rd_T56 l0_1 x33_2).f0), .slice A104_1 ((rd_T56 l0_1 x33_2).f1).length c104_1, .slice A104_2 ((rd_T56 l0_1 x33_2).f2).length c104_2] 56 (0, 0))) := ⟨by (with_reducible repeat (first | refine blk_drewN ?_ _ | refine blk_drew ?_ | refine blk_alloc ?_ _)); refine blk_put (cs := #[.string ((rd_T56 l0_1 x33_2).f0), .slice A104_1 ((rd_T56 l0_1 x33_2).f1).length c104_1, .slice none 0 0]) ?_ 2 _ rfl; (with_reducible repeat (first | refine blk_drewN ?_ _ | refine blk_drew ?_ | refine blk_alloc ?_ _)); refine blk_put (cs := #[.string ((rd_T56 l0_1 x33_2).f0), .slice none 0 0, .slice none 0 0]) ?_ 1 _ rfl; (with_reducible repeat (first | refine blk_drewN ?_ _ | refine blk_drew ?_ | refine blk_alloc ?_ _)); refine blk_put (cs := #[.string (⟨#[]⟩ : ByteArray), .slice none 0 0, .slice none 0 0]) ?_ 0 _ rfl; (with_reducible repeat (first | refine blk_drewN ?_ _ | refine blk_drew ?_ | refine blk_alloc ?_ _)); exact BK105.1⟩
                have n2_ : Aside0 (Below w.heap.size w (((w20.setCell ⟨gb105, 0, none⟩ (.string ((rd_T56 l0_1 x33_2).f0))).setCell ⟨gb105, 1, none⟩ (.slice A104_1 ((rd_T56 l0_1 x33_2).f1).length c104_1)).setCell ⟨gb105, 2, none⟩ (.slice A104_2 ((rd_T56 l0_1 x33_2).f2).length c104_2))) := ⟨pY30⟩
                (try clear BK101)
                (try clear BK105)
                (try clear HB)
                generalize (((w20.setCell ⟨gb105, 0, none⟩ (.string ((rd_T56 l0_1 x33_2).f0))).setCell ⟨gb105, 1, none⟩ (.slice A104_1 ((rd_T56 l0_1 x33_2).f1).length c104_1)).setCell ⟨gb105, 2, none⟩ (.slice A104_2 ((rd_T56 l0_1 x33_2).f2).length c104_2)) = w35 at n0_ n1_ n2_ ⊢
                have BK101 := n0_
                have BK105 := n1_
                have HB := n2_
                clear n0_ n1_ n2_
                have n0_ := Aside0.mk (blk_drew BK101.1)
                have n1_ := Aside0.mk (blk_drew BK105.1)
                have n2_ := Aside0.mk (below_drew1 HB.1)
                clear BK101
                clear BK105
                clear HB
                have BK101 := n0_
                have BK105 := n1_
                have HB := n2_
                clear n0_ n1_ n2_
                have p107 : 0 ≤ ((ji26) : Int) := of_decide_eq_true (pY50)
                have q107 : (ji26) < (l0_1.length : Int) := of_decide_eq_true (pY50)
                obtain ⟨ad107, A107_1, c107_1, A107_2, c107_2, e107, hx107_0, hx107_1, hx107_2, hl107_1, hi107_1, hl107_2, hi107_2⟩ := at_T56 HR0_1.1 (ji26) p107 q107
                have hw107_2 := hx107_2
                have hw107_1 := hx107_1
                have hw107_0 := hx107_0
                obtain rfl : ad104 = ad107 := (by injection e107)
                replace hx107_0 := (HB.1.cell (World.block_lt_of_cell? w _ hx107_0)).trans hx107_0
                replace hx107_1 := (HB.1.cell (World.block_lt_of_cell? w _ hx107_1)).trans hx107_1
                replace hx107_2 := (HB.1.cell (World.block_lt_of_cell? w _ hx107_2)).trans hx107_2
                have HR107_1 := Aside0.mk hi107_1
                have HC107_1 := Aside0.mk hl107_1
                clear hi107_1 hl107_1
                have HR107_2 := Aside0.mk hi107_2
                have HC107_2 := Aside0.mk hl107_2
                clear hi107_2 hl107_2
                replace p107 := eq_true p107
                replace q107 := eq_true q107
                refine start_ (n := 36) (S := fun w' => w'.cell? ⟨gb105, 0, none⟩ = some (.string ((rd_T56 l0_1 x33_2).f0)) ∧ w'.cell? ⟨gb105, 1, none⟩ = some (.slice A104_1 ((rd_T56 l0_1 x33_2).f1).length c104_1) ∧ w'.cell? ⟨gb105, 2, none⟩ = some (.slice A104_2 ((rd_T56 l0_1 x33_2).f2).length c104_2) ∧ w'.cell? ⟨gb101, 0, none⟩ = some (.slice A0_0 l0_0.length c0_0) ∧ w'.cell? ⟨gb101, 1, none⟩ = some (.slice (some ad104) l0_1.length c0_1) ∧ w'.cell? (ad104.add (((ji26)).toNat * 3)) = some (.string ((rd_T56 l0_1 (ji26)).f0)) ∧ w'.cell? ⟨(ad104.add (((ji26)).toNat * 3)).block, (ad104.add (((ji26)).toNat * 3)).off + 1, none⟩ = some (.slice A107_1 ((rd_T56 l0_1 (ji26)).f1).length c107_1) ∧ w'.cell? ⟨(ad104.add (((ji26)).toNat * 3)).block, (ad104.add (((ji26)).toNat * 3)).off + 2, none⟩ = some (.slice A107_2 ((rd_T56 l0_1 (ji26)).f2).length c107_2)) (ds := []) #[ff,ff,ff,ff,ff,ff,ff,ff,ff,ff,ff,ff,ff,ff,ff,ff,ff,ff,ff,ff,ff,ff,ff,ff,ff,ff,ff,ff,ff,ff,ff,ff,ff,ff,ff,ff] (by kernel_rfl) rfl rfl ⟨(blk_cell BK105.1 0).trans rfl, (blk_cell BK105.1 1).trans rfl, (blk_cell BK105.1 2).trans rfl, (blk_cell BK101.1 0).trans rfl, (blk_cell BK101.1 1).trans rfl, ((HB.1.cell (World.block_lt_of_cell? w _ hw107_0)).trans hw107_0), ((HB.1.cell (World.block_lt_of_cell? w _ hw107_1)).trans hw107_1), ((HB.1.cell (World.block_lt_of_cell? w _ hw107_2)).trans hw107_2)⟩ (fun hHeld => ?_); refine with_tabW impl_ShareBookOk.tab6 impl_ShareBookOk.bits6 (fun HT_ HW_ => ?_)
                generalize w35.drew = w36 at BK101 BK105 HB HR107_1 HR107_2 hx107_0 hx107_1 hx107_2 hHeld ⊢
                refine pU (i := 0) (N := some 38) #[tt,ff,ff,ff,ff,ff,ff,ff,ff,ff,ff,ff,ff,ff,ff,ff,ff,ff,ff,ff,ff,ff,ff,ff,ff,ff,ff,ff,ff,ff,ff,ff,ff,ff,ff,ff] ?_
                refine tK8 (i := 1) (N := some 39) #[tt,tt,ff,ff,ff,ff,ff,ff,ff,ff,ff,ff,ff,ff,ff,ff,ff,ff,ff,ff,ff,ff,ff,ff,ff,ff,ff,ff,ff,ff,ff,ff,ff,ff,ff,ff] ?_
                refine one_ (i := 2) (N := some 40) #[tt,tt,tt,ff,ff,ff,ff,ff,ff,ff,ff,ff,ff,ff,ff,ff,ff,ff,ff,ff,ff,ff,ff,ff,ff,ff,ff,ff,ff,ff,ff,ff,ff,ff,ff,ff] rfl rfl (one_of HT_.out (by kernel_rfl)) (by decide) (fun K hK => ?_)
                refine goes_ Try.func77 (by kernel_rfl) rfl #[.string ((rd_T56 l0_1 x33_2).f0)] (by rfl) rfl rfl (pY36) ?_
                with_reducible refine (impl_name.calls k2 ((rd_T56 l0_1 x33_2).f0) true _ A23.out).mono ?_
                rintro e w' ⟨rfl, ⟨nd, rfl⟩⟩
                refine ⟨_, rfl, ?_⟩
                refine hK.out _ _ ⟨(blk_cell BK105.1 0).trans rfl, (blk_cell BK105.1 1).trans rfl, (blk_cell BK105.1 2).trans rfl, (blk_cell BK101.1 0).trans rfl, (blk_cell BK101.1 1).trans rfl, ((HB.1.cell (World.block_lt_of_cell? w _ hw107_0)).trans hw107_0), ((HB.1.cell (World.block_lt_of_cell? w _ hw107_1)).trans hw107_1), ((HB.1.cell (World.block_lt_of_cell? w _ hw107_2)).trans hw107_2)⟩ (fun hHeld => ?_)
                clear hK K
                refine norm_ (a' := ?_) ?_ ?_
                rotate_left
                ·show Act.put _ (some 40) _ = _
                 simp only [pW]
                 rfl
                refine pU (i := 3) (N := some 41) #[tt,tt,tt,tt,ff,ff,ff,ff,ff,ff,ff,ff,ff,ff,ff,ff,ff,ff,ff,ff,ff,ff,ff,ff,ff,ff,ff,ff,ff,ff,ff,ff,ff,ff,ff,ff] ?_
                refine pU (i := 4) (N := some 42) #[tt,tt,tt,tt,tt,ff,ff,ff,ff,ff,ff,ff,ff,ff,ff,ff,ff,ff,ff,ff,ff,ff,ff,ff,ff,ff,ff,ff,ff,ff,ff,ff,ff,ff,ff,ff] ?_
                refine pU (i := 5) (N := some 43) #[tt,tt,tt,tt,tt,tt,ff,ff,ff,ff,ff,ff,ff,ff,ff,ff,ff,ff,ff,ff,ff,ff,ff,ff,ff,ff,ff,ff,ff,ff,ff,ff,ff,ff,ff,ff] ?_
                refine pU (i := 6) (N := some 44) #[tt,tt,tt,tt,tt,tt,tt,ff,ff,ff,ff,ff,ff,ff,ff,ff,ff,ff,ff,ff,ff,ff,ff,ff,ff,ff,ff,ff,ff,ff,ff,ff,ff,ff,ff,ff] ?_
                refine pU (i := 7) (N := some 45) #[tt,tt,tt,tt,tt,tt,tt,tt,ff,ff,ff,ff,ff,ff,ff,ff,ff,ff,ff,ff,ff,ff,ff,ff,ff,ff,ff,ff,ff,ff,ff,ff,ff,ff,ff,ff] ?_
                refine pU (i := 8) (N := some 46) #[tt,tt,tt,tt,tt,tt,tt,tt,tt,ff,ff,ff,ff,ff,ff,ff,ff,ff,ff,ff,ff,ff,ff,ff,ff,ff,ff,ff,ff,ff,ff,ff,ff,ff,ff,ff] ?_
                refine pU (i := 10) (N := some 48) #[tt,tt,tt,tt,tt,tt,tt,tt,tt,ff,tt,ff,ff,ff,ff,ff,ff,ff,ff,ff,ff,ff,ff,ff,ff,ff,ff,ff,ff,ff,ff,ff,ff,ff,ff,ff] ?_
                refine pU (i := 11) (N := some 49) #[tt,tt,tt,tt,tt,tt,tt,tt,tt,ff,tt,tt,ff,ff,ff,ff,ff,ff,ff,ff,ff,ff,ff,ff,ff,ff,ff,ff,ff,ff,ff,ff,ff,ff,ff,ff] ?_
                refine pU (i := 15) (N := some 53) #[tt,tt,tt,tt,tt,tt,tt,tt,tt,ff,tt,tt,ff,ff,ff,tt,ff,ff,ff,ff,ff,ff,ff,ff,ff,ff,ff,ff,ff,ff,ff,ff,ff,ff,ff,ff] ?_
                refine tK8 (i := 9) (N := some 47) #[tt,tt,tt,tt,tt,tt,tt,tt,tt,tt,tt,tt,ff,ff,ff,tt,ff,ff,ff,ff,ff,ff,ff,ff,ff,ff,ff,ff,ff,ff,ff,ff,ff,ff,ff,ff] ?_
                refine pU (i := 12) (N := some 50) #[tt,tt,tt,tt,tt,tt,tt,tt,tt,tt,tt,tt,tt,ff,ff,tt,ff,ff,ff,ff,ff,ff,ff,ff,ff,ff,ff,ff,ff,ff,ff,ff,ff,ff,ff,ff] ?_
                refine pU (i := 13) (N := some 51) #[tt,tt,tt,tt,tt,tt,tt,tt,tt,tt,tt,tt,tt,tt,ff,tt,ff,ff,ff,ff,ff,ff,ff,ff,ff,ff,ff,ff,ff,ff,ff,ff,ff,ff,ff,ff] ?_
                refine tK8 (i := 14) (N := some 52) #[tt,tt,tt,tt,tt,tt,tt,tt,tt,tt,tt,tt,tt,tt,tt,tt,ff,ff,ff,ff,ff,ff,ff,ff,ff,ff,ff,ff,ff,ff,ff,ff,ff,ff,ff,ff] ?_
                refine tK8 (i := 16) (N := some 54) #[tt,tt,tt,tt,tt,tt,tt,tt,tt,tt,tt,tt,tt,tt,tt,tt,tt,ff,ff,ff,ff,ff,ff,ff,ff,ff,ff,ff,ff,ff,ff,ff,ff,ff,ff,ff] ?_
                refine pU (i := 17) (N := some 55) #[tt,tt,tt,tt,tt,tt,tt,tt,tt,tt,tt,tt,tt,tt,tt,tt,tt,tt,ff,ff,ff,ff,ff,ff,ff,ff,ff,ff,ff,ff,ff,ff,ff,ff,ff,ff] ?_
                refine pU (i := 18) (N := some 56) #[tt,tt,tt,tt,tt,tt,tt,tt,tt,tt,tt,tt,tt,tt,tt,tt,tt,tt,tt,ff,ff,ff,ff,ff,ff,ff,ff,ff,ff,ff,ff,ff,ff,ff,ff,ff] ?_
                refine pU (i := 19) (N := some 57) #[tt,tt,tt,tt,tt,tt,tt,tt,tt,tt,tt,tt,tt,tt,tt,tt,tt,tt,tt,tt,ff,ff,ff,ff,ff,ff,ff,ff,ff,ff,ff,ff,ff,ff,ff,ff] ?_
                refine pU (i := 20) (N := some 58) #[tt,tt,tt,tt,tt,tt,tt,tt,tt,tt,tt,tt,tt,tt,tt,tt,tt,tt,tt,tt,tt,ff,ff,ff,ff,ff,ff,ff,ff,ff,ff,ff,ff,ff,ff,ff] ?_
                refine pU (i := 21) (N := some 59) #[tt,tt,tt,tt,tt,tt,tt,tt,tt,tt,tt,tt,tt,tt,tt,tt,tt,tt,tt,tt,tt,tt,ff,ff,ff,ff,ff,ff,ff,ff,ff,ff,ff,ff,ff,ff] ?_
                refine pU (i := 23) (N := some 61) #[tt,tt,tt,tt,tt,tt,tt,tt,tt,tt,tt,tt,tt,tt,tt,tt,tt,tt,tt,tt,tt,tt,ff,tt,ff,ff,ff,ff,ff,ff,ff,ff,ff,ff,ff,ff] ?_
                refine tK8 (i := 22) (N := some 60) #[tt,tt,tt,tt,tt,tt,tt,tt,tt,tt,tt,tt,tt,tt,tt,tt,tt,tt,tt,tt,tt,tt,tt,tt,ff,ff,ff,ff,ff,ff,ff,ff,ff,ff,ff,ff] ?_
                refine tK8 (i := 24) (N := some 62) #[tt,tt,tt,tt,tt,tt,tt,tt,tt,tt,tt,tt,tt,tt,tt,tt,tt,tt,tt,tt,tt,tt,tt,tt,tt,ff,ff,ff,ff,ff,ff,ff,ff,ff,ff,ff] ?_
                refine one_ (i := 25) (N := some 63) #[tt,tt,tt,tt,tt,tt,tt,tt,tt,tt,tt,tt,tt,tt,tt,tt,tt,tt,tt,tt,tt,tt,tt,tt,tt,tt,ff,ff,ff,ff,ff,ff,ff,ff,ff,ff] rfl rfl (one_of HT_.out (by kernel_rfl)) (by decide) (fun K hK => ?_)
                refine goes_ Try.func74 (by kernel_rfl) rfl #[.slice A104_2 ((rd_T56 l0_1 x33_2).f2).length c104_2, .slice A0_0 l0_0.length c0_0] (by rfl) rfl rfl (pY36) ?_
                with_reducible refine (impl_of.calls k2 _ _ ((rd_T56 l0_1 x33_2).f2) _ _ l0_0 false _ ?side1 ?side2 ?side3 ?side4 A30.out).mono ?_
                (case side1 => exact pC (Kd.C_below HR104_2.1 (pY30)))
                (case side2 => exact HC104_2.1)
                (case side3 => exact pC (Kd.C_below HR0_0.1 (pY30)))
                (case side4 => exact HC0_0.1)
                rintro e w' ⟨rfl, ⟨nd, rfl⟩⟩
                refine ⟨_, rfl, ?_⟩
                refine hK.out _ _ ⟨(blk_cell BK105.1 0).trans rfl, (blk_cell BK105.1 1).trans rfl, (blk_cell BK105.1 2).trans rfl, (blk_cell BK101.1 0).trans rfl, (blk_cell BK101.1 1).trans rfl, ((HB.1.cell (World.block_lt_of_cell? w _ hw107_0)).trans hw107_0), ((HB.1.cell (World.block_lt_of_cell? w _ hw107_1)).trans hw107_1), ((HB.1.cell (World.block_lt_of_cell? w _ hw107_2)).trans hw107_2)⟩ (fun hHeld => ?_)
                clear hK K
                refine norm_ (a' := ?_) ?_ ?_
                rotate_left
                ·show Act.put _ (some 63) _ = _
                 simp only [pW]
                 rfl
                refine pU (i := 26) (N := some 64) #[tt,tt,tt,tt,tt,tt,tt,tt,tt,tt,tt,tt,tt,tt,tt,tt,tt,tt,tt,tt,tt,tt,tt,tt,tt,tt,tt,ff,ff,ff,ff,ff,ff,ff,ff,ff] ?_
                refine pU (i := 27) (N := some 65) #[tt,tt,tt,tt,tt,tt,tt,tt,tt,tt,tt,tt,tt,tt,tt,tt,tt,tt,tt,tt,tt,tt,tt,tt,tt,tt,tt,tt,ff,ff,ff,ff,ff,ff,ff,ff] ?_
                refine pU (i := 28) (N := some 66) #[tt,tt,tt,tt,tt,tt,tt,tt,tt,tt,tt,tt,tt,tt,tt,tt,tt,tt,tt,tt,tt,tt,tt,tt,tt,tt,tt,tt,tt,ff,ff,ff,ff,ff,ff,ff] ?_
                refine pV (i := 29) (N := some 67) #[tt,tt,tt,tt,tt,tt,tt,tt,tt,tt,tt,tt,tt,tt,tt,tt,tt,tt,tt,tt,tt,tt,tt,tt,tt,tt,tt,tt,tt,tt,ff,ff,ff,ff,ff,ff] ?_
                refine pV (i := 30) (N := some 68) #[tt,tt,tt,tt,tt,tt,tt,tt,tt,tt,tt,tt,tt,tt,tt,tt,tt,tt,tt,tt,tt,tt,tt,tt,tt,tt,tt,tt,tt,tt,tt,ff,ff,ff,ff,ff] ?_
                refine pV (i := 31) (N := some 69) #[tt,tt,tt,tt,tt,tt,tt,tt,tt,tt,tt,tt,tt,tt,tt,tt,tt,tt,tt,tt,tt,tt,tt,tt,tt,tt,tt,tt,tt,tt,tt,tt,ff,ff,ff,ff] ?_
                refine pV (i := 32) (N := some 70) #[tt,tt,tt,tt,tt,tt,tt,tt,tt,tt,tt,tt,tt,tt,tt,tt,tt,tt,tt,tt,tt,tt,tt,tt,tt,tt,tt,tt,tt,tt,tt,tt,tt,ff,ff,ff] ?_
                refine pV (i := 33) (N := some 71) #[tt,tt,tt,tt,tt,tt,tt,tt,tt,tt,tt,tt,tt,tt,tt,tt,tt,tt,tt,tt,tt,tt,tt,tt,tt,tt,tt,tt,tt,tt,tt,tt,tt,tt,ff,ff] ?_
                refine pV (i := 34) (N := some 72) #[tt,tt,tt,tt,tt,tt,tt,tt,tt,tt,tt,tt,tt,tt,tt,tt,tt,tt,tt,tt,tt,tt,tt,tt,tt,tt,tt,tt,tt,tt,tt,tt,tt,tt,tt,ff] ?_
                refine pU (i := 35) (N := some 73) #[tt,tt,tt,tt,tt,tt,tt,tt,tt,tt,tt,tt,tt,tt,tt,tt,tt,tt,tt,tt,tt,tt,tt,tt,tt,tt,tt,tt,tt,tt,tt,tt,tt,tt,tt,tt] ?_
                refine done_ (done_of HT_.out (by kernel_rfl)) ?_
                try go_wp2
                go_meet
                case rel => exact ⟨_, (true), (pY51), H', ⟨by have := HJ1.out; have := HK2.out; first | omega | exact Nat.le_refl _⟩, ⟨by (with_reducible repeat (first | refine blk_drewN ?_ _ | refine blk_drew ?_ | refine blk_alloc ?_ _)); exact BK101.1⟩, ⟨by (with_reducible repeat (first | refine blk_drewN ?_ _ | refine blk_drew ?_ | refine blk_alloc ?_ _)); exact BK105.1⟩, ⟨pY30⟩⟩
              ·rw [if_neg c29] at H
               have c29b0 : (Op.bytesLess (((rd_T56 l0_1 (ji26)).f0).toList) (((rd_T56 l0_1 x33_2).f0).toList)) = false := by simpa using c29
               clear c29
               have H' := Aside0.mk H
               clear H
               try go_wp2
               have n0_ : Aside0 ((((w20.setCell ⟨gb105, 0, none⟩ (.string ((rd_T56 l0_1 x33_2).f0))).setCell ⟨gb105, 1, none⟩ (.slice A104_1 ((rd_T56 l0_1 x33_2).f1).length c104_1)).setCell ⟨gb105, 2, none⟩ (.slice A104_2 ((rd_T56 l0_1 x33_2).f2).length c104_2)).heap[gb101]? = some (.cells #[.slice A0_0 l0_0.length c0_0, .slice (some ad104) l0_1.length c0_1] 31 (0, 0))) := ⟨by (with_reducible repeat (first | refine blk_drewN ?_ _ | refine blk_drew ?_ | refine blk_alloc ?_ _)); refine blk_far ?_ NB101_105.1 _; (with_reducible repeat (first | refine blk_drewN ?_ _ | refine blk_drew ?_ | refine blk_alloc ?_ _)); refine blk_far ?_ NB101_105.1 _; (with_reducible repeat (first | refine blk_drewN ?_ _ | refine blk_drew ?_ | refine blk_alloc ?_ _)); refine blk_far ?_ NB101_105.1 _; (with_reducible repeat (first | refine blk_drewN ?_ _ | refine blk_drew ?_ | refine blk_alloc ?_ _)); exact BK101.1⟩
               have n1_ : Aside0 ((((w20.setCell ⟨gb105, 0, none⟩ (.string ((rd_T56 l0_1 x33_2).f0))).setCell ⟨gb105, 1, none⟩ (.slice A104_1 ((rd_T56 l0_1 x33_2).f1).length c104_1)).setCell ⟨gb105, 2, none⟩ (.slice A104_2 ((rd_T56 l0_1 x33_2).f2).length c104_2)).heap[gb105]? = some (.cells #[.string ((rd_T56 l0_1 x33_2).f0), .slice A104_1 ((rd_T56 l0_1 x33_2).f1).length c104_1, .slice A104_2 ((rd_T56 l0_1 x33_2).f2).length c104_2] 56 (0, 0))) := ⟨by (with_reducible repeat (first | refine blk_drewN ?_ _ | refine blk_drew ?_ | refine blk_alloc ?_ _)); refine blk_put (cs := #[.string ((rd_T56 l0_1 x33_2).f0), .slice A104_1 ((rd_T56 l0_1 x33_2).f1).length c104_1, .slice none 0 0]) ?_ 2 _ rfl; (with_reducible repeat (first | refine blk_drewN ?_ _ | refine blk_drew ?_ | refine blk_alloc ?_ _)); refine blk_put (cs := #[.string ((rd_T56 l0_1 x33_2).f0), .slice none 0 0, .slice none 0 0]) ?_ 1 _ rfl; (with_reducible repeat (first | refine blk_drewN ?_ _ | refine blk_drew ?_ | refine blk_alloc ?_ _)); refine blk_put (cs := #[.string (⟨#[]⟩ : ByteArray), .slice none 0 0, .slice none 0 0]) ?_ 0 _ rfl; (with_reducible repeat (first | refine blk_drewN ?_ _ | refine blk_drew ?_ | refine blk_alloc ?_ _)); exact BK105.1⟩
               have n2_ : Aside0 (Below w.heap.size w (((w20.setCell ⟨gb105, 0, none⟩ (.string ((rd_T56 l0_1 x33_2).f0))).setCell ⟨gb105, 1, none⟩ (.slice A104_1 ((rd_T56 l0_1 x33_2).f1).length c104_1)).setCell ⟨gb105, 2, none⟩ (.slice A104_2 ((rd_T56 l0_1 x33_2).f2).length c104_2))) := ⟨pY30⟩
               (try clear BK101)
               (try clear BK105)
               (try clear HB)
               generalize (((w20.setCell ⟨gb105, 0, none⟩ (.string ((rd_T56 l0_1 x33_2).f0))).setCell ⟨gb105, 1, none⟩ (.slice A104_1 ((rd_T56 l0_1 x33_2).f1).length c104_1)).setCell ⟨gb105, 2, none⟩ (.slice A104_2 ((rd_T56 l0_1 x33_2).f2).length c104_2)) = w37 at n0_ n1_ n2_ ⊢
               have BK101 := n0_
               have BK105 := n1_
               have HB := n2_
               clear n0_ n1_ n2_
               have n0_ := Aside0.mk (blk_drew BK101.1)
               have n1_ := Aside0.mk (blk_drew BK105.1)
               have n2_ := Aside0.mk (below_drew1 HB.1)
               clear BK101
               clear BK105
               clear HB
               have BK101 := n0_
               have BK105 := n1_
               have HB := n2_
               clear n0_ n1_ n2_
               have p107 : 0 ≤ ((ji26) : Int) := of_decide_eq_true (pY50)
               have q107 : (ji26) < (l0_1.length : Int) := of_decide_eq_true (pY50)
               obtain ⟨ad107, A107_1, c107_1, A107_2, c107_2, e107, hx107_0, hx107_1, hx107_2, hl107_1, hi107_1, hl107_2, hi107_2⟩ := at_T56 HR0_1.1 (ji26) p107 q107
               have hw107_2 := hx107_2
               have hw107_1 := hx107_1
               have hw107_0 := hx107_0
               obtain rfl : ad104 = ad107 := (by injection e107)
               replace hx107_0 := (HB.1.cell (World.block_lt_of_cell? w _ hx107_0)).trans hx107_0
               replace hx107_1 := (HB.1.cell (World.block_lt_of_cell? w _ hx107_1)).trans hx107_1
               replace hx107_2 := (HB.1.cell (World.block_lt_of_cell? w _ hx107_2)).trans hx107_2
               have HR107_1 := Aside0.mk hi107_1
               have HC107_1 := Aside0.mk hl107_1
               clear hi107_1 hl107_1
               have HR107_2 := Aside0.mk hi107_2
               have HC107_2 := Aside0.mk hl107_2
               clear hi107_2 hl107_2
               replace p107 := eq_true p107
               replace q107 := eq_true q107
               refine start_ (n := 36) (S := fun w' => w'.cell? ⟨gb105, 0, none⟩ = some (.string ((rd_T56 l0_1 x33_2).f0)) ∧ w'.cell? ⟨gb105, 1, none⟩ = some (.slice A104_1 ((rd_T56 l0_1 x33_2).f1).length c104_1) ∧ w'.cell? ⟨gb105, 2, none⟩ = some (.slice A104_2 ((rd_T56 l0_1 x33_2).f2).length c104_2) ∧ w'.cell? ⟨gb101, 0, none⟩ = some (.slice A0_0 l0_0.length c0_0) ∧ w'.cell? ⟨gb101, 1, none⟩ = some (.slice (some ad104) l0_1.length c0_1) ∧ w'.cell? (ad104.add (((ji26)).toNat * 3)) = some (.string ((rd_T56 l0_1 (ji26)).f0)) ∧ w'.cell? ⟨(ad104.add (((ji26)).toNat * 3)).block, (ad104.add (((ji26)).toNat * 3)).off + 1, none⟩ = some (.slice A107_1 ((rd_T56 l0_1 (ji26)).f1).length c107_1) ∧ w'.cell? ⟨(ad104.add (((ji26)).toNat * 3)).block, (ad104.add (((ji26)).toNat * 3)).off + 2, none⟩ = some (.slice A107_2 ((rd_T56 l0_1 (ji26)).f2).length c107_2)) (ds := []) #[ff,ff,ff,ff,ff,ff,ff,ff,ff,ff,ff,ff,ff,ff,ff,ff,ff,ff,ff,ff,ff,ff,ff,ff,ff,ff,ff,ff,ff,ff,ff,ff,ff,ff,ff,ff] (by kernel_rfl) rfl rfl ⟨(blk_cell BK105.1 0).trans rfl, (blk_cell BK105.1 1).trans rfl, (blk_cell BK105.1 2).trans rfl, (blk_cell BK101.1 0).trans rfl, (blk_cell BK101.1 1).trans rfl, ((HB.1.cell (World.block_lt_of_cell? w _ hw107_0)).trans hw107_0), ((HB.1.cell (World.block_lt_of_cell? w _ hw107_1)).trans hw107_1), ((HB.1.cell (World.block_lt_of_cell? w _ hw107_2)).trans hw107_2)⟩ (fun hHeld => ?_); refine with_tabW impl_ShareBookOk.tab6 impl_ShareBookOk.bits6 (fun HT_ HW_ => ?_)
               generalize w37.drew = w38 at BK101 BK105 HB HR107_1 HR107_2 hx107_0 hx107_1 hx107_2 hHeld ⊢
               refine pU (i := 0) (N := some 38) #[tt,ff,ff,ff,ff,ff,ff,ff,ff,ff,ff,ff,ff,ff,ff,ff,ff,ff,ff,ff,ff,ff,ff,ff,ff,ff,ff,ff,ff,ff,ff,ff,ff,ff,ff,ff] ?_
               refine tK8 (i := 1) (N := some 39) #[tt,tt,ff,ff,ff,ff,ff,ff,ff,ff,ff,ff,ff,ff,ff,ff,ff,ff,ff,ff,ff,ff,ff,ff,ff,ff,ff,ff,ff,ff,ff,ff,ff,ff,ff,ff] ?_
               refine one_ (i := 2) (N := some 40) #[tt,tt,tt,ff,ff,ff,ff,ff,ff,ff,ff,ff,ff,ff,ff,ff,ff,ff,ff,ff,ff,ff,ff,ff,ff,ff,ff,ff,ff,ff,ff,ff,ff,ff,ff,ff] rfl rfl (one_of HT_.out (by kernel_rfl)) (by decide) (fun K hK => ?_)
               refine goes_ Try.func77 (by kernel_rfl) rfl #[.string ((rd_T56 l0_1 x33_2).f0)] (by rfl) rfl rfl (pY36) ?_
               with_reducible refine (impl_name.calls k2 ((rd_T56 l0_1 x33_2).f0) true _ A23.out).mono ?_
               rintro e w' ⟨rfl, ⟨nd, rfl⟩⟩
               refine ⟨_, rfl, ?_⟩
               refine hK.out _ _ ⟨(blk_cell BK105.1 0).trans rfl, (blk_cell BK105.1 1).trans rfl, (blk_cell BK105.1 2).trans rfl, (blk_cell BK101.1 0).trans rfl, (blk_cell BK101.1 1).trans rfl, ((HB.1.cell (World.block_lt_of_cell? w _ hw107_0)).trans hw107_0), ((HB.1.cell (World.block_lt_of_cell? w _ hw107_1)).trans hw107_1), ((HB.1.cell (World.block_lt_of_cell? w _ hw107_2)).trans hw107_2)⟩ (fun hHeld => ?_)
               clear hK K
               refine norm_ (a' := ?_) ?_ ?_
               rotate_left
               ·show Act.put _ (some 40) _ = _
                simp only [pW]
                rfl
               refine pU (i := 3) (N := some 41) #[tt,tt,tt,tt,ff,ff,ff,ff,ff,ff,ff,ff,ff,ff,ff,ff,ff,ff,ff,ff,ff,ff,ff,ff,ff,ff,ff,ff,ff,ff,ff,ff,ff,ff,ff,ff] ?_
               refine pU (i := 4) (N := some 42) #[tt,tt,tt,tt,tt,ff,ff,ff,ff,ff,ff,ff,ff,ff,ff,ff,ff,ff,ff,ff,ff,ff,ff,ff,ff,ff,ff,ff,ff,ff,ff,ff,ff,ff,ff,ff] ?_
               refine pU (i := 5) (N := some 43) #[tt,tt,tt,tt,tt,tt,ff,ff,ff,ff,ff,ff,ff,ff,ff,ff,ff,ff,ff,ff,ff,ff,ff,ff,ff,ff,ff,ff,ff,ff,ff,ff,ff,ff,ff,ff] ?_
               refine pU (i := 6) (N := some 44) #[tt,tt,tt,tt,tt,tt,tt,ff,ff,ff,ff,ff,ff,ff,ff,ff,ff,ff,ff,ff,ff,ff,ff,ff,ff,ff,ff,ff,ff,ff,ff,ff,ff,ff,ff,ff] ?_
               refine pU (i := 7) (N := some 45) #[tt,tt,tt,tt,tt,tt,tt,tt,ff,ff,ff,ff,ff,ff,ff,ff,ff,ff,ff,ff,ff,ff,ff,ff,ff,ff,ff,ff,ff,ff,ff,ff,ff,ff,ff,ff] ?_
               refine pU (i := 8) (N := some 46) #[tt,tt,tt,tt,tt,tt,tt,tt,tt,ff,ff,ff,ff,ff,ff,ff,ff,ff,ff,ff,ff,ff,ff,ff,ff,ff,ff,ff,ff,ff,ff,ff,ff,ff,ff,ff] ?_
               refine pU (i := 10) (N := some 48) #[tt,tt,tt,tt,tt,tt,tt,tt,tt,ff,tt,ff,ff,ff,ff,ff,ff,ff,ff,ff,ff,ff,ff,ff,ff,ff,ff,ff,ff,ff,ff,ff,ff,ff,ff,ff] ?_
               refine pU (i := 11) (N := some 49) #[tt,tt,tt,tt,tt,tt,tt,tt,tt,ff,tt,tt,ff,ff,ff,ff,ff,ff,ff,ff,ff,ff,ff,ff,ff,ff,ff,ff,ff,ff,ff,ff,ff,ff,ff,ff] ?_
               refine pU (i := 15) (N := some 53) #[tt,tt,tt,tt,tt,tt,tt,tt,tt,ff,tt,tt,ff,ff,ff,tt,ff,ff,ff,ff,ff,ff,ff,ff,ff,ff,ff,ff,ff,ff,ff,ff,ff,ff,ff,ff] ?_
               refine tK8 (i := 9) (N := some 47) #[tt,tt,tt,tt,tt,tt,tt,tt,tt,tt,tt,tt,ff,ff,ff,tt,ff,ff,ff,ff,ff,ff,ff,ff,ff,ff,ff,ff,ff,ff,ff,ff,ff,ff,ff,ff] ?_
               refine pU (i := 12) (N := some 50) #[tt,tt,tt,tt,tt,tt,tt,tt,tt,tt,tt,tt,tt,ff,ff,tt,ff,ff,ff,ff,ff,ff,ff,ff,ff,ff,ff,ff,ff,ff,ff,ff,ff,ff,ff,ff] ?_
               refine pU (i := 13) (N := some 51) #[tt,tt,tt,tt,tt,tt,tt,tt,tt,tt,tt,tt,tt,tt,ff,tt,ff,ff,ff,ff,ff,ff,ff,ff,ff,ff,ff,ff,ff,ff,ff,ff,ff,ff,ff,ff] ?_
               refine tK8 (i := 14) (N := some 52) #[tt,tt,tt,tt,tt,tt,tt,tt,tt,tt,tt,tt,tt,tt,tt,tt,ff,ff,ff,ff,ff,ff,ff,ff,ff,ff,ff,ff,ff,ff,ff,ff,ff,ff,ff,ff] ?_
               refine tK8 (i := 16) (N := some 54) #[tt,tt,tt,tt,tt,tt,tt,tt,tt,tt,tt,tt,tt,tt,tt,tt,tt,ff,ff,ff,ff,ff,ff,ff,ff,ff,ff,ff,ff,ff,ff,ff,ff,ff,ff,ff] ?_
               refine pU (i := 17) (N := some 55) #[tt,tt,tt,tt,tt,tt,tt,tt,tt,tt,tt,tt,tt,tt,tt,tt,tt,tt,ff,ff,ff,ff,ff,ff,ff,ff,ff,ff,ff,ff,ff,ff,ff,ff,ff,ff] ?_
               refine pU (i := 18) (N := some 56) #[tt,tt,tt,tt,tt,tt,tt,tt,tt,tt,tt,tt,tt,tt,tt,tt,tt,tt,tt,ff,ff,ff,ff,ff,ff,ff,ff,ff,ff,ff,ff,ff,ff,ff,ff,ff] ?_
               refine pU (i := 19) (N := some 57) #[tt,tt,tt,tt,tt,tt,tt,tt,tt,tt,tt,tt,tt,tt,tt,tt,tt,tt,tt,tt,ff,ff,ff,ff,ff,ff,ff,ff,ff,ff,ff,ff,ff,ff,ff,ff] ?_
               refine pU (i := 20) (N := some 58) #[tt,tt,tt,tt,tt,tt,tt,tt,tt,tt,tt,tt,tt,tt,tt,tt,tt,tt,tt,tt,tt,ff,ff,ff,ff,ff,ff,ff,ff,ff,ff,ff,ff,ff,ff,ff] ?_
               refine pV (i := 21) (N := some 59) #[tt,tt,tt,tt,tt,tt,tt,tt,tt,tt,tt,tt,tt,tt,tt,tt,tt,tt,tt,tt,tt,tt,ff,ff,ff,ff,ff,ff,ff,ff,ff,ff,ff,ff,ff,ff] ?_
               refine pV (i := 22) (N := some 60) #[tt,tt,tt,tt,tt,tt,tt,tt,tt,tt,tt,tt,tt,tt,tt,tt,tt,tt,tt,tt,tt,tt,tt,ff,ff,ff,ff,ff,ff,ff,ff,ff,ff,ff,ff,ff] ?_
               refine pV (i := 23) (N := some 61) #[tt,tt,tt,tt,tt,tt,tt,tt,tt,tt,tt,tt,tt,tt,tt,tt,tt,tt,tt,tt,tt,tt,tt,tt,ff,ff,ff,ff,ff,ff,ff,ff,ff,ff,ff,ff] ?_
               refine pV (i := 24) (N := some 62) #[tt,tt,tt,tt,tt,tt,tt,tt,tt,tt,tt,tt,tt,tt,tt,tt,tt,tt,tt,tt,tt,tt,tt,tt,tt,ff,ff,ff,ff,ff,ff,ff,ff,ff,ff,ff] ?_
               refine pV (i := 25) (N := some 63) #[tt,tt,tt,tt,tt,tt,tt,tt,tt,tt,tt,tt,tt,tt,tt,tt,tt,tt,tt,tt,tt,tt,tt,tt,tt,tt,ff,ff,ff,ff,ff,ff,ff,ff,ff,ff] ?_
               refine pV (i := 26) (N := some 64) #[tt,tt,tt,tt,tt,tt,tt,tt,tt,tt,tt,tt,tt,tt,tt,tt,tt,tt,tt,tt,tt,tt,tt,tt,tt,tt,tt,ff,ff,ff,ff,ff,ff,ff,ff,ff] ?_
               refine pU (i := 27) (N := some 65) #[tt,tt,tt,tt,tt,tt,tt,tt,tt,tt,tt,tt,tt,tt,tt,tt,tt,tt,tt,tt,tt,tt,tt,tt,tt,tt,tt,tt,ff,ff,ff,ff,ff,ff,ff,ff] ?_
               refine pU (i := 28) (N := some 66) #[tt,tt,tt,tt,tt,tt,tt,tt,tt,tt,tt,tt,tt,tt,tt,tt,tt,tt,tt,tt,tt,tt,tt,tt,tt,tt,tt,tt,tt,ff,ff,ff,ff,ff,ff,ff] ?_
               refine pV (i := 29) (N := some 67) #[tt,tt,tt,tt,tt,tt,tt,tt,tt,tt,tt,tt,tt,tt,tt,tt,tt,tt,tt,tt,tt,tt,tt,tt,tt,tt,tt,tt,tt,tt,ff,ff,ff,ff,ff,ff] ?_
               refine pV (i := 30) (N := some 68) #[tt,tt,tt,tt,tt,tt,tt,tt,tt,tt,tt,tt,tt,tt,tt,tt,tt,tt,tt,tt,tt,tt,tt,tt,tt,tt,tt,tt,tt,tt,tt,ff,ff,ff,ff,ff] ?_
               refine pV (i := 31) (N := some 69) #[tt,tt,tt,tt,tt,tt,tt,tt,tt,tt,tt,tt,tt,tt,tt,tt,tt,tt,tt,tt,tt,tt,tt,tt,tt,tt,tt,tt,tt,tt,tt,tt,ff,ff,ff,ff] ?_
               refine pV (i := 32) (N := some 70) #[tt,tt,tt,tt,tt,tt,tt,tt,tt,tt,tt,tt,tt,tt,tt,tt,tt,tt,tt,tt,tt,tt,tt,tt,tt,tt,tt,tt,tt,tt,tt,tt,tt,ff,ff,ff] ?_
               refine pV (i := 33) (N := some 71) #[tt,tt,tt,tt,tt,tt,tt,tt,tt,tt,tt,tt,tt,tt,tt,tt,tt,tt,tt,tt,tt,tt,tt,tt,tt,tt,tt,tt,tt,tt,tt,tt,tt,tt,ff,ff] ?_
               refine pV (i := 34) (N := some 72) #[tt,tt,tt,tt,tt,tt,tt,tt,tt,tt,tt,tt,tt,tt,tt,tt,tt,tt,tt,tt,tt,tt,tt,tt,tt,tt,tt,tt,tt,tt,tt,tt,tt,tt,tt,ff] ?_
               refine pU (i := 35) (N := some 73) #[tt,tt,tt,tt,tt,tt,tt,tt,tt,tt,tt,tt,tt,tt,tt,tt,tt,tt,tt,tt,tt,tt,tt,tt,tt,tt,tt,tt,tt,tt,tt,tt,tt,tt,tt,tt] ?_
               refine done_ (done_of HT_.out (by kernel_rfl)) ?_
               try go_wp2
               go_meet
               case rel => exact ⟨_, (true), (pY51), H', ⟨by have := HJ1.out; have := HK2.out; first | omega | exact Nat.le_refl _⟩, ⟨by (with_reducible repeat (first | refine blk_drewN ?_ _ | refine blk_drew ?_ | refine blk_alloc ?_ _)); exact BK101.1⟩, ⟨by (with_reducible repeat (first | refine blk_drewN ?_ _ | refine blk_drew ?_ | refine blk_alloc ?_ _)); exact BK105.1⟩, ⟨pY30⟩⟩
             ·rw [if_neg c28] at H
              exact absurd H (by simp)
            ·rw [if_neg c27] at H
             exact absurd H (by simp)
           ·rw [if_neg c25] at H
            have c25b0 : decide (0 < x33_2) = false := decide_eq_false c25
            clear c25
            (first | rw [c25b0] | (simp only [i64_w, i32_w]; rw [c25b0]) | skip)
            replace H := Option.bind_eq_some_iff.mp H
            obtain ⟨t110, A390, H⟩ := H
            replace H : (if t110 = true then ((impl_of.f k2 ((rd_T56 l0_1 x33_2).f1) ((rd_T56 l0_1 x33_2).f2)).bind fun t111 => (impl_ShareBookOk.j2 k2 x33_2 l0_1 (l0_1.length : Int) x33_2 (!t111) l0_0 l0_1 ((rd_T56 l0_1 x33_2).f0) ((rd_T56 l0_1 x33_2).f1) ((rd_T56 l0_1 x33_2).f2))) else (impl_ShareBookOk.j2 k2 x33_2 l0_1 (l0_1.length : Int) x33_2 true l0_0 l0_1 ((rd_T56 l0_1 x33_2).f0) ((rd_T56 l0_1 x33_2).f1) ((rd_T56 l0_1 x33_2).f2))) = some r := H
            have A39 := Aside0.mk A390
            clear A390
            by_cases c40 : t110 = true
            ·subst c40
             have H1 : ((impl_of.f k2 ((rd_T56 l0_1 x33_2).f1) ((rd_T56 l0_1 x33_2).f2)).bind fun t111 => (impl_ShareBookOk.j2 k2 x33_2 l0_1 (l0_1.length : Int) x33_2 (!t111) l0_0 l0_1 ((rd_T56 l0_1 x33_2).f0) ((rd_T56 l0_1 x33_2).f1) ((rd_T56 l0_1 x33_2).f2))) = some r := by rw [if_pos rfl] at H; exact H
             clear H
             have H := H1
             clear H1
             replace H := Option.bind_eq_some_iff.mp H
             obtain ⟨t111, A410, H⟩ := H
             replace H : (impl_ShareBookOk.j2 k2 x33_2 l0_1 (l0_1.length : Int) x33_2 (!t111) l0_0 l0_1 ((rd_T56 l0_1 x33_2).f0) ((rd_T56 l0_1 x33_2).f1) ((rd_T56 l0_1 x33_2).f2)) = some r := H
             have A41 := Aside0.mk A410
             clear A410
             have H' := Aside0.mk H
             clear H
             try go_wp2
             have n0_ : Aside0 ((((w20.setCell ⟨gb105, 0, none⟩ (.string ((rd_T56 l0_1 x33_2).f0))).setCell ⟨gb105, 1, none⟩ (.slice A104_1 ((rd_T56 l0_1 x33_2).f1).length c104_1)).setCell ⟨gb105, 2, none⟩ (.slice A104_2 ((rd_T56 l0_1 x33_2).f2).length c104_2)).heap[gb101]? = some (.cells #[.slice A0_0 l0_0.length c0_0, .slice (some ad104) l0_1.length c0_1] 31 (0, 0))) := ⟨by (with_reducible repeat (first | refine blk_drewN ?_ _ | refine blk_drew ?_ | refine blk_alloc ?_ _)); refine blk_far ?_ NB101_105.1 _; (with_reducible repeat (first | refine blk_drewN ?_ _ | refine blk_drew ?_ | refine blk_alloc ?_ _)); refine blk_far ?_ NB101_105.1 _; (with_reducible repeat (first | refine blk_drewN ?_ _ | refine blk_drew ?_ | refine blk_alloc ?_ _)); refine blk_far ?_ NB101_105.1 _; (with_reducible repeat (first | refine blk_drewN ?_ _ | refine blk_drew ?_ | refine blk_alloc ?_ _)); exact BK101.1⟩
             have n1_ : Aside0 ((((w20.setCell ⟨gb105, 0, none⟩ (.string ((rd_T56 l0_1 x33_2).f0))).setCell ⟨gb105, 1, none⟩ (.slice A104_1 ((rd_T56 l0_1 x33_2).f1).length c104_1)).setCell ⟨gb105, 2, none⟩ (.slice A104_2 ((rd_T56 l0_1 x33_2).f2).length c104_2)).heap[gb105]? = some (.cells #[.string ((rd_T56 l0_1 x33_2).f0), .slice A104_1 ((rd_T56 l0_1 x33_2).f1).length c104_1, .slice A104_2 ((rd_T56 l0_1 x33_2).f2).length c104_2] 56 (0, 0))) := ⟨by (with_reducible repeat (first | refine blk_drewN ?_ _ | refine blk_drew ?_ | refine blk_alloc ?_ _)); refine blk_put (cs := #[.string ((rd_T56 l0_1 x33_2).f0), .slice A104_1 ((rd_T56 l0_1 x33_2).f1).length c104_1, .slice none 0 0]) ?_ 2 _ rfl; (with_reducible repeat (first | refine blk_drewN ?_ _ | refine blk_drew ?_ | refine blk_alloc ?_ _)); refine blk_put (cs := #[.string ((rd_T56 l0_1 x33_2).f0), .slice none 0 0, .slice none 0 0]) ?_ 1 _ rfl; (with_reducible repeat (first | refine blk_drewN ?_ _ | refine blk_drew ?_ | refine blk_alloc ?_ _)); refine blk_put (cs := #[.string (⟨#[]⟩ : ByteArray), .slice none 0 0, .slice none 0 0]) ?_ 0 _ rfl; (with_reducible repeat (first | refine blk_drewN ?_ _ | refine blk_drew ?_ | refine blk_alloc ?_ _)); exact BK105.1⟩
             have n2_ : Aside0 (Below w.heap.size w (((w20.setCell ⟨gb105, 0, none⟩ (.string ((rd_T56 l0_1 x33_2).f0))).setCell ⟨gb105, 1, none⟩ (.slice A104_1 ((rd_T56 l0_1 x33_2).f1).length c104_1)).setCell ⟨gb105, 2, none⟩ (.slice A104_2 ((rd_T56 l0_1 x33_2).f2).length c104_2))) := ⟨pY30⟩
             (try clear BK101)
             (try clear BK105)
             (try clear HB)
             generalize (((w20.setCell ⟨gb105, 0, none⟩ (.string ((rd_T56 l0_1 x33_2).f0))).setCell ⟨gb105, 1, none⟩ (.slice A104_1 ((rd_T56 l0_1 x33_2).f1).length c104_1)).setCell ⟨gb105, 2, none⟩ (.slice A104_2 ((rd_T56 l0_1 x33_2).f2).length c104_2)) = w42 at n0_ n1_ n2_ ⊢
             have BK101 := n0_
             have BK105 := n1_
             have HB := n2_
             clear n0_ n1_ n2_
             have n0_ := Aside0.mk (blk_drew BK101.1)
             have n1_ := Aside0.mk (blk_drew BK105.1)
             have n2_ := Aside0.mk (below_drew1 HB.1)
             clear BK101
             clear BK105
             clear HB
             have BK101 := n0_
             have BK105 := n1_
             have HB := n2_
             clear n0_ n1_ n2_
             refine start_ (n := 36) (S := fun w' => w'.cell? ⟨gb105, 0, none⟩ = some (.string ((rd_T56 l0_1 x33_2).f0)) ∧ w'.cell? ⟨gb105, 1, none⟩ = some (.slice A104_1 ((rd_T56 l0_1 x33_2).f1).length c104_1) ∧ w'.cell? ⟨gb105, 2, none⟩ = some (.slice A104_2 ((rd_T56 l0_1 x33_2).f2).length c104_2) ∧ w'.cell? ⟨gb101, 0, none⟩ = some (.slice A0_0 l0_0.length c0_0) ∧ w'.cell? ⟨gb101, 1, none⟩ = some (.slice (some ad104) l0_1.length c0_1)) (ds := []) #[ff,ff,ff,ff,ff,ff,ff,ff,ff,ff,ff,ff,ff,ff,ff,ff,ff,ff,ff,ff,ff,ff,ff,ff,ff,ff,ff,ff,ff,ff,ff,ff,ff,ff,ff,ff] (by kernel_rfl) rfl rfl ⟨(blk_cell BK105.1 0).trans rfl, (blk_cell BK105.1 1).trans rfl, (blk_cell BK105.1 2).trans rfl, (blk_cell BK101.1 0).trans rfl, (blk_cell BK101.1 1).trans rfl⟩ (fun hHeld => ?_); refine with_tabW impl_ShareBookOk.tab6 impl_ShareBookOk.bits6 (fun HT_ HW_ => ?_)
             generalize w42.drew = w43 at BK101 BK105 HB hHeld ⊢
             refine pU (i := 0) (N := some 38) #[tt,ff,ff,ff,ff,ff,ff,ff,ff,ff,ff,ff,ff,ff,ff,ff,ff,ff,ff,ff,ff,ff,ff,ff,ff,ff,ff,ff,ff,ff,ff,ff,ff,ff,ff,ff] ?_
             refine tK5 (i := 1) (N := some 39) #[tt,tt,ff,ff,ff,ff,ff,ff,ff,ff,ff,ff,ff,ff,ff,ff,ff,ff,ff,ff,ff,ff,ff,ff,ff,ff,ff,ff,ff,ff,ff,ff,ff,ff,ff,ff] ?_
             refine one_ (i := 2) (N := some 40) #[tt,tt,tt,ff,ff,ff,ff,ff,ff,ff,ff,ff,ff,ff,ff,ff,ff,ff,ff,ff,ff,ff,ff,ff,ff,ff,ff,ff,ff,ff,ff,ff,ff,ff,ff,ff] rfl rfl (one_of HT_.out (by kernel_rfl)) (by decide) (fun K hK => ?_)
             refine goes_ Try.func77 (by kernel_rfl) rfl #[.string ((rd_T56 l0_1 x33_2).f0)] (by rfl) rfl rfl (pY36) ?_
             with_reducible refine (impl_name.calls k2 ((rd_T56 l0_1 x33_2).f0) true _ A23.out).mono ?_
             rintro e w' ⟨rfl, ⟨nd, rfl⟩⟩
             refine ⟨_, rfl, ?_⟩
             refine hK.out _ _ ⟨(blk_cell BK105.1 0).trans rfl, (blk_cell BK105.1 1).trans rfl, (blk_cell BK105.1 2).trans rfl, (blk_cell BK101.1 0).trans rfl, (blk_cell BK101.1 1).trans rfl⟩ (fun hHeld => ?_)
             clear hK K
             refine norm_ (a' := ?_) ?_ ?_
             rotate_left
             ·show Act.put _ (some 40) _ = _
              simp only [pW]
              rfl
             refine pU (i := 3) (N := some 41) #[tt,tt,tt,tt,ff,ff,ff,ff,ff,ff,ff,ff,ff,ff,ff,ff,ff,ff,ff,ff,ff,ff,ff,ff,ff,ff,ff,ff,ff,ff,ff,ff,ff,ff,ff,ff] ?_
             refine pU (i := 4) (N := some 42) #[tt,tt,tt,tt,tt,ff,ff,ff,ff,ff,ff,ff,ff,ff,ff,ff,ff,ff,ff,ff,ff,ff,ff,ff,ff,ff,ff,ff,ff,ff,ff,ff,ff,ff,ff,ff] ?_
             refine pU (i := 5) (N := some 43) #[tt,tt,tt,tt,tt,tt,ff,ff,ff,ff,ff,ff,ff,ff,ff,ff,ff,ff,ff,ff,ff,ff,ff,ff,ff,ff,ff,ff,ff,ff,ff,ff,ff,ff,ff,ff] ?_
             refine pU (i := 6) (N := some 44) #[tt,tt,tt,tt,tt,tt,tt,ff,ff,ff,ff,ff,ff,ff,ff,ff,ff,ff,ff,ff,ff,ff,ff,ff,ff,ff,ff,ff,ff,ff,ff,ff,ff,ff,ff,ff] ?_
             refine pU (i := 7) (N := some 45) #[tt,tt,tt,tt,tt,tt,tt,tt,ff,ff,ff,ff,ff,ff,ff,ff,ff,ff,ff,ff,ff,ff,ff,ff,ff,ff,ff,ff,ff,ff,ff,ff,ff,ff,ff,ff] ?_
             refine pV (i := 8) (N := some 46) #[tt,tt,tt,tt,tt,tt,tt,tt,tt,ff,ff,ff,ff,ff,ff,ff,ff,ff,ff,ff,ff,ff,ff,ff,ff,ff,ff,ff,ff,ff,ff,ff,ff,ff,ff,ff] ?_
             refine pV (i := 9) (N := some 47) #[tt,tt,tt,tt,tt,tt,tt,tt,tt,tt,ff,ff,ff,ff,ff,ff,ff,ff,ff,ff,ff,ff,ff,ff,ff,ff,ff,ff,ff,ff,ff,ff,ff,ff,ff,ff] ?_
             refine pV (i := 10) (N := some 48) #[tt,tt,tt,tt,tt,tt,tt,tt,tt,tt,tt,ff,ff,ff,ff,ff,ff,ff,ff,ff,ff,ff,ff,ff,ff,ff,ff,ff,ff,ff,ff,ff,ff,ff,ff,ff] ?_
             refine pV (i := 11) (N := some 49) #[tt,tt,tt,tt,tt,tt,tt,tt,tt,tt,tt,tt,ff,ff,ff,ff,ff,ff,ff,ff,ff,ff,ff,ff,ff,ff,ff,ff,ff,ff,ff,ff,ff,ff,ff,ff] ?_
             refine pV (i := 12) (N := some 50) #[tt,tt,tt,tt,tt,tt,tt,tt,tt,tt,tt,tt,tt,ff,ff,ff,ff,ff,ff,ff,ff,ff,ff,ff,ff,ff,ff,ff,ff,ff,ff,ff,ff,ff,ff,ff] ?_
             refine pV (i := 13) (N := some 51) #[tt,tt,tt,tt,tt,tt,tt,tt,tt,tt,tt,tt,tt,tt,ff,ff,ff,ff,ff,ff,ff,ff,ff,ff,ff,ff,ff,ff,ff,ff,ff,ff,ff,ff,ff,ff] ?_
             refine pV (i := 14) (N := some 52) #[tt,tt,tt,tt,tt,tt,tt,tt,tt,tt,tt,tt,tt,tt,tt,ff,ff,ff,ff,ff,ff,ff,ff,ff,ff,ff,ff,ff,ff,ff,ff,ff,ff,ff,ff,ff] ?_
             refine pV (i := 15) (N := some 53) #[tt,tt,tt,tt,tt,tt,tt,tt,tt,tt,tt,tt,tt,tt,tt,tt,ff,ff,ff,ff,ff,ff,ff,ff,ff,ff,ff,ff,ff,ff,ff,ff,ff,ff,ff,ff] ?_
             refine pV (i := 16) (N := some 54) #[tt,tt,tt,tt,tt,tt,tt,tt,tt,tt,tt,tt,tt,tt,tt,tt,tt,ff,ff,ff,ff,ff,ff,ff,ff,ff,ff,ff,ff,ff,ff,ff,ff,ff,ff,ff] ?_
             refine pV (i := 17) (N := some 55) #[tt,tt,tt,tt,tt,tt,tt,tt,tt,tt,tt,tt,tt,tt,tt,tt,tt,tt,ff,ff,ff,ff,ff,ff,ff,ff,ff,ff,ff,ff,ff,ff,ff,ff,ff,ff] ?_
             refine pU (i := 18) (N := some 56) #[tt,tt,tt,tt,tt,tt,tt,tt,tt,tt,tt,tt,tt,tt,tt,tt,tt,tt,tt,ff,ff,ff,ff,ff,ff,ff,ff,ff,ff,ff,ff,ff,ff,ff,ff,ff] ?_
             refine pU (i := 19) (N := some 57) #[tt,tt,tt,tt,tt,tt,tt,tt,tt,tt,tt,tt,tt,tt,tt,tt,tt,tt,tt,tt,ff,ff,ff,ff,ff,ff,ff,ff,ff,ff,ff,ff,ff,ff,ff,ff] ?_
             refine pU (i := 20) (N := some 58) #[tt,tt,tt,tt,tt,tt,tt,tt,tt,tt,tt,tt,tt,tt,tt,tt,tt,tt,tt,tt,tt,ff,ff,ff,ff,ff,ff,ff,ff,ff,ff,ff,ff,ff,ff,ff] ?_
             refine pU (i := 21) (N := some 59) #[tt,tt,tt,tt,tt,tt,tt,tt,tt,tt,tt,tt,tt,tt,tt,tt,tt,tt,tt,tt,tt,tt,ff,ff,ff,ff,ff,ff,ff,ff,ff,ff,ff,ff,ff,ff] ?_
             refine pU (i := 23) (N := some 61) #[tt,tt,tt,tt,tt,tt,tt,tt,tt,tt,tt,tt,tt,tt,tt,tt,tt,tt,tt,tt,tt,tt,ff,tt,ff,ff,ff,ff,ff,ff,ff,ff,ff,ff,ff,ff] ?_
             refine tK5 (i := 22) (N := some 60) #[tt,tt,tt,tt,tt,tt,tt,tt,tt,tt,tt,tt,tt,tt,tt,tt,tt,tt,tt,tt,tt,tt,tt,tt,ff,ff,ff,ff,ff,ff,ff,ff,ff,ff,ff,ff] ?_
             refine tK5 (i := 24) (N := some 62) #[tt,tt,tt,tt,tt,tt,tt,tt,tt,tt,tt,tt,tt,tt,tt,tt,tt,tt,tt,tt,tt,tt,tt,tt,tt,ff,ff,ff,ff,ff,ff,ff,ff,ff,ff,ff] ?_
             refine one_ (i := 25) (N := some 63) #[tt,tt,tt,tt,tt,tt,tt,tt,tt,tt,tt,tt,tt,tt,tt,tt,tt,tt,tt,tt,tt,tt,tt,tt,tt,tt,ff,ff,ff,ff,ff,ff,ff,ff,ff,ff] rfl rfl (one_of HT_.out (by kernel_rfl)) (by decide) (fun K hK => ?_)
             refine goes_ Try.func74 (by kernel_rfl) rfl #[.slice A104_2 ((rd_T56 l0_1 x33_2).f2).length c104_2, .slice A0_0 l0_0.length c0_0] (by rfl) rfl rfl (pY36) ?_
             with_reducible refine (impl_of.calls k2 _ _ ((rd_T56 l0_1 x33_2).f2) _ _ l0_0 true _ ?side1 ?side2 ?side3 ?side4 A39.out).mono ?_
             (case side1 => exact pC (Kd.C_below HR104_2.1 (pY30)))
             (case side2 => exact HC104_2.1)
             (case side3 => exact pC (Kd.C_below HR0_0.1 (pY30)))
             (case side4 => exact HC0_0.1)
             rintro e w' ⟨rfl, ⟨nd, rfl⟩⟩
             refine ⟨_, rfl, ?_⟩
             refine hK.out _ _ ⟨(blk_cell BK105.1 0).trans rfl, (blk_cell BK105.1 1).trans rfl, (blk_cell BK105.1 2).trans rfl, (blk_cell BK101.1 0).trans rfl, (blk_cell BK101.1 1).trans rfl⟩ (fun hHeld => ?_)
             clear hK K
             refine norm_ (a' := ?_) ?_ ?_
             rotate_left
             ·show Act.put _ (some 63) _ = _
              simp only [pW]
              rfl
             refine pU (i := 26) (N := some 64) #[tt,tt,tt,tt,tt,tt,tt,tt,tt,tt,tt,tt,tt,tt,tt,tt,tt,tt,tt,tt,tt,tt,tt,tt,tt,tt,tt,ff,ff,ff,ff,ff,ff,ff,ff,ff] ?_
             refine pU (i := 27) (N := some 65) #[tt,tt,tt,tt,tt,tt,tt,tt,tt,tt,tt,tt,tt,tt,tt,tt,tt,tt,tt,tt,tt,tt,tt,tt,tt,tt,tt,tt,ff,ff,ff,ff,ff,ff,ff,ff] ?_
             refine pU (i := 28) (N := some 66) #[tt,tt,tt,tt,tt,tt,tt,tt,tt,tt,tt,tt,tt,tt,tt,tt,tt,tt,tt,tt,tt,tt,tt,tt,tt,tt,tt,tt,tt,ff,ff,ff,ff,ff,ff,ff] ?_
             refine pU (i := 29) (N := some 67) #[tt,tt,tt,tt,tt,tt,tt,tt,tt,tt,tt,tt,tt,tt,tt,tt,tt,tt,tt,tt,tt,tt,tt,tt,tt,tt,tt,tt,tt,tt,ff,ff,ff,ff,ff,ff] ?_
             refine pU (i := 31) (N := some 69) #[tt,tt,tt,tt,tt,tt,tt,tt,tt,tt,tt,tt,tt,tt,tt,tt,tt,tt,tt,tt,tt,tt,tt,tt,tt,tt,tt,tt,tt,tt,ff,tt,ff,ff,ff,ff] ?_
             refine tK5 (i := 30) (N := some 68) #[tt,tt,tt,tt,tt,tt,tt,tt,tt,tt,tt,tt,tt,tt,tt,tt,tt,tt,tt,tt,tt,tt,tt,tt,tt,tt,tt,tt,tt,tt,tt,tt,ff,ff,ff,ff] ?_
             refine tK5 (i := 32) (N := some 70) #[tt,tt,tt,tt,tt,tt,tt,tt,tt,tt,tt,tt,tt,tt,tt,tt,tt,tt,tt,tt,tt,tt,tt,tt,tt,tt,tt,tt,tt,tt,tt,tt,tt,ff,ff,ff] ?_
             refine one_ (i := 33) (N := some 71) #[tt,tt,tt,tt,tt,tt,tt,tt,tt,tt,tt,tt,tt,tt,tt,tt,tt,tt,tt,tt,tt,tt,tt,tt,tt,tt,tt,tt,tt,tt,tt,tt,tt,tt,ff,ff] rfl rfl (one_of HT_.out (by kernel_rfl)) (by decide) (fun K hK => ?_)
             refine goes_ Try.func74 (by kernel_rfl) rfl #[.slice A104_1 ((rd_T56 l0_1 x33_2).f1).length c104_1, .slice A104_2 ((rd_T56 l0_1 x33_2).f2).length c104_2] (by rfl) rfl rfl (pY36) ?_
             with_reducible refine (impl_of.calls k2 _ _ ((rd_T56 l0_1 x33_2).f1) _ _ ((rd_T56 l0_1 x33_2).f2) t111 _ ?side1 ?side2 ?side3 ?side4 A41.out).mono ?_
             (case side1 => exact pC (Kd.C_below HR104_1.1 (pY30)))
             (case side2 => exact HC104_1.1)
             (case side3 => exact pC (Kd.C_below HR104_2.1 (pY30)))
             (case side4 => exact HC104_2.1)
             rintro e w' ⟨rfl, ⟨nd, rfl⟩⟩
             refine ⟨_, rfl, ?_⟩
             refine hK.out _ _ ⟨(blk_cell BK105.1 0).trans rfl, (blk_cell BK105.1 1).trans rfl, (blk_cell BK105.1 2).trans rfl, (blk_cell BK101.1 0).trans rfl, (blk_cell BK101.1 1).trans rfl⟩ (fun hHeld => ?_)
             clear hK K
             refine norm_ (a' := ?_) ?_ ?_
             rotate_left
             ·show Act.put _ (some 71) _ = _
              simp only [pW]
              rfl
             refine pU (i := 34) (N := some 72) #[tt,tt,tt,tt,tt,tt,tt,tt,tt,tt,tt,tt,tt,tt,tt,tt,tt,tt,tt,tt,tt,tt,tt,tt,tt,tt,tt,tt,tt,tt,tt,tt,tt,tt,tt,ff] ?_
             refine pU (i := 35) (N := some 73) #[tt,tt,tt,tt,tt,tt,tt,tt,tt,tt,tt,tt,tt,tt,tt,tt,tt,tt,tt,tt,tt,tt,tt,tt,tt,tt,tt,tt,tt,tt,tt,tt,tt,tt,tt,tt] ?_
             refine done_ (done_of HT_.out (by kernel_rfl)) ?_
             try go_wp2
             go_meet
             case rel => exact ⟨_, (!t111), (pY51), H', ⟨by have := HJ1.out; have := HK2.out; first | omega | exact Nat.le_refl _⟩, ⟨by (with_reducible repeat (first | refine blk_drewN ?_ _ | refine blk_drew ?_ | refine blk_alloc ?_ _)); exact BK101.1⟩, ⟨by (with_reducible repeat (first | refine blk_drewN ?_ _ | refine blk_drew ?_ | refine blk_alloc ?_ _)); exact BK105.1⟩, ⟨pY30⟩⟩
            ·replace c40 := Bool.eq_false_iff.mpr c40
             subst c40
             have H1 : (impl_ShareBookOk.j2 k2 x33_2 l0_1 (l0_1.length : Int) x33_2 true l0_0 l0_1 ((rd_T56 l0_1 x33_2).f0) ((rd_T56 l0_1 x33_2).f1) ((rd_T56 l0_1 x33_2).f2)) = some r := by rw [if_neg (show ¬ (false = true) by decide)] at H; exact H
             clear H
             have H := H1
             clear H1
             have H' := Aside0.mk H
             clear H
             try go_wp2
             have n0_ : Aside0 ((((w20.setCell ⟨gb105, 0, none⟩ (.string ((rd_T56 l0_1 x33_2).f0))).setCell ⟨gb105, 1, none⟩ (.slice A104_1 ((rd_T56 l0_1 x33_2).f1).length c104_1)).setCell ⟨gb105, 2, none⟩ (.slice A104_2 ((rd_T56 l0_1 x33_2).f2).length c104_2)).heap[gb101]? = some (.cells #[.slice A0_0 l0_0.length c0_0, .slice (some ad104) l0_1.length c0_1] 31 (0, 0))) := ⟨by (with_reducible repeat (first | refine blk_drewN ?_ _ | refine blk_drew ?_ | refine blk_alloc ?_ _)); refine blk_far ?_ NB101_105.1 _; (with_reducible repeat (first | refine blk_drewN ?_ _ | refine blk_drew ?_ | refine blk_alloc ?_ _)); refine blk_far ?_ NB101_105.1 _; (with_reducible repeat (first | refine blk_drewN ?_ _ | refine blk_drew ?_ | refine blk_alloc ?_ _)); refine blk_far ?_ NB101_105.1 _; (with_reducible repeat (first | refine blk_drewN ?_ _ | refine blk_drew ?_ | refine blk_alloc ?_ _)); exact BK101.1⟩
             have n1_ : Aside0 ((((w20.setCell ⟨gb105, 0, none⟩ (.string ((rd_T56 l0_1 x33_2).f0))).setCell ⟨gb105, 1, none⟩ (.slice A104_1 ((rd_T56 l0_1 x33_2).f1).length c104_1)).setCell ⟨gb105, 2, none⟩ (.slice A104_2 ((rd_T56 l0_1 x33_2).f2).length c104_2)).heap[gb105]? = some (.cells #[.string ((rd_T56 l0_1 x33_2).f0), .slice A104_1 ((rd_T56 l0_1 x33_2).f1).length c104_1, .slice A104_2 ((rd_T56 l0_1 x33_2).f2).length c104_2] 56 (0, 0))) := ⟨by (with_reducible repeat (first | refine blk_drewN ?_ _ | refine blk_drew ?_ | refine blk_alloc ?_ _)); refine blk_put (cs := #[.string ((rd_T56 l0_1 x33_2).f0), .slice A104_1 ((rd_T56 l0_1 x33_2).f1).length c104_1, .slice none 0 0]) ?_ 2 _ rfl; (with_reducible repeat (first | refine blk_drewN ?_ _ | refine blk_drew ?_ | refine blk_alloc ?_ _)); refine blk_put (cs := #[.string ((rd_T56 l0_1 x33_2).f0), .slice none 0 0, .slice none 0 0]) ?_ 1 _ rfl; (with_reducible repeat (first | refine blk_drewN ?_ _ | refine blk_drew ?_ | refine blk_alloc ?_ _)); refine blk_put (cs := #[.string (⟨#[]⟩ : ByteArray), .slice none 0 0, .slice none 0 0]) ?_ 0 _ rfl; (with_reducible repeat (first | refine blk_drewN ?_ _ | refine blk_drew ?_ | refine blk_alloc ?_ _)); exact BK105.1⟩
             have n2_ : Aside0 (Below w.heap.size w (((w20.setCell ⟨gb105, 0, none⟩ (.string ((rd_T56 l0_1 x33_2).f0))).setCell ⟨gb105, 1, none⟩ (.slice A104_1 ((rd_T56 l0_1 x33_2).f1).length c104_1)).setCell ⟨gb105, 2, none⟩ (.slice A104_2 ((rd_T56 l0_1 x33_2).f2).length c104_2))) := ⟨pY30⟩
             (try clear BK101)
             (try clear BK105)
             (try clear HB)
             generalize (((w20.setCell ⟨gb105, 0, none⟩ (.string ((rd_T56 l0_1 x33_2).f0))).setCell ⟨gb105, 1, none⟩ (.slice A104_1 ((rd_T56 l0_1 x33_2).f1).length c104_1)).setCell ⟨gb105, 2, none⟩ (.slice A104_2 ((rd_T56 l0_1 x33_2).f2).length c104_2)) = w44 at n0_ n1_ n2_ ⊢
             have BK101 := n0_
             have BK105 := n1_
             have HB := n2_
             clear n0_ n1_ n2_
             have n0_ := Aside0.mk (blk_drew BK101.1)
             have n1_ := Aside0.mk (blk_drew BK105.1)
             have n2_ := Aside0.mk (below_drew1 HB.1)
             clear BK101
             clear BK105
             clear HB
             have BK101 := n0_
             have BK105 := n1_
             have HB := n2_
             clear n0_ n1_ n2_
             refine start_ (n := 36) (S := fun w' => w'.cell? ⟨gb105, 0, none⟩ = some (.string ((rd_T56 l0_1 x33_2).f0)) ∧ w'.cell? ⟨gb105, 1, none⟩ = some (.slice A104_1 ((rd_T56 l0_1 x33_2).f1).length c104_1) ∧ w'.cell? ⟨gb105, 2, none⟩ = some (.slice A104_2 ((rd_T56 l0_1 x33_2).f2).length c104_2) ∧ w'.cell? ⟨gb101, 0, none⟩ = some (.slice A0_0 l0_0.length c0_0) ∧ w'.cell? ⟨gb101, 1, none⟩ = some (.slice (some ad104) l0_1.length c0_1)) (ds := []) #[ff,ff,ff,ff,ff,ff,ff,ff,ff,ff,ff,ff,ff,ff,ff,ff,ff,ff,ff,ff,ff,ff,ff,ff,ff,ff,ff,ff,ff,ff,ff,ff,ff,ff,ff,ff] (by kernel_rfl) rfl rfl ⟨(blk_cell BK105.1 0).trans rfl, (blk_cell BK105.1 1).trans rfl, (blk_cell BK105.1 2).trans rfl, (blk_cell BK101.1 0).trans rfl, (blk_cell BK101.1 1).trans rfl⟩ (fun hHeld => ?_); refine with_tabW impl_ShareBookOk.tab6 impl_ShareBookOk.bits6 (fun HT_ HW_ => ?_)
             generalize w44.drew = w45 at BK101 BK105 HB hHeld ⊢
             refine pU (i := 0) (N := some 38) #[tt,ff,ff,ff,ff,ff,ff,ff,ff,ff,ff,ff,ff,ff,ff,ff,ff,ff,ff,ff,ff,ff,ff,ff,ff,ff,ff,ff,ff,ff,ff,ff,ff,ff,ff,ff] ?_
             refine tK5 (i := 1) (N := some 39) #[tt,tt,ff,ff,ff,ff,ff,ff,ff,ff,ff,ff,ff,ff,ff,ff,ff,ff,ff,ff,ff,ff,ff,ff,ff,ff,ff,ff,ff,ff,ff,ff,ff,ff,ff,ff] ?_
             refine one_ (i := 2) (N := some 40) #[tt,tt,tt,ff,ff,ff,ff,ff,ff,ff,ff,ff,ff,ff,ff,ff,ff,ff,ff,ff,ff,ff,ff,ff,ff,ff,ff,ff,ff,ff,ff,ff,ff,ff,ff,ff] rfl rfl (one_of HT_.out (by kernel_rfl)) (by decide) (fun K hK => ?_)
             refine goes_ Try.func77 (by kernel_rfl) rfl #[.string ((rd_T56 l0_1 x33_2).f0)] (by rfl) rfl rfl (pY36) ?_
             with_reducible refine (impl_name.calls k2 ((rd_T56 l0_1 x33_2).f0) true _ A23.out).mono ?_
             rintro e w' ⟨rfl, ⟨nd, rfl⟩⟩
             refine ⟨_, rfl, ?_⟩
             refine hK.out _ _ ⟨(blk_cell BK105.1 0).trans rfl, (blk_cell BK105.1 1).trans rfl, (blk_cell BK105.1 2).trans rfl, (blk_cell BK101.1 0).trans rfl, (blk_cell BK101.1 1).trans rfl⟩ (fun hHeld => ?_)
             clear hK K
             refine norm_ (a' := ?_) ?_ ?_
             rotate_left
             ·show Act.put _ (some 40) _ = _
              simp only [pW]
              rfl
             refine pU (i := 3) (N := some 41) #[tt,tt,tt,tt,ff,ff,ff,ff,ff,ff,ff,ff,ff,ff,ff,ff,ff,ff,ff,ff,ff,ff,ff,ff,ff,ff,ff,ff,ff,ff,ff,ff,ff,ff,ff,ff] ?_
             refine pU (i := 4) (N := some 42) #[tt,tt,tt,tt,tt,ff,ff,ff,ff,ff,ff,ff,ff,ff,ff,ff,ff,ff,ff,ff,ff,ff,ff,ff,ff,ff,ff,ff,ff,ff,ff,ff,ff,ff,ff,ff] ?_
             refine pU (i := 5) (N := some 43) #[tt,tt,tt,tt,tt,tt,ff,ff,ff,ff,ff,ff,ff,ff,ff,ff,ff,ff,ff,ff,ff,ff,ff,ff,ff,ff,ff,ff,ff,ff,ff,ff,ff,ff,ff,ff] ?_
             refine pU (i := 6) (N := some 44) #[tt,tt,tt,tt,tt,tt,tt,ff,ff,ff,ff,ff,ff,ff,ff,ff,ff,ff,ff,ff,ff,ff,ff,ff,ff,ff,ff,ff,ff,ff,ff,ff,ff,ff,ff,ff] ?_
             refine pU (i := 7) (N := some 45) #[tt,tt,tt,tt,tt,tt,tt,tt,ff,ff,ff,ff,ff,ff,ff,ff,ff,ff,ff,ff,ff,ff,ff,ff,ff,ff,ff,ff,ff,ff,ff,ff,ff,ff,ff,ff] ?_
             refine pV (i := 8) (N := some 46) #[tt,tt,tt,tt,tt,tt,tt,tt,tt,ff,ff,ff,ff,ff,ff,ff,ff,ff,ff,ff,ff,ff,ff,ff,ff,ff,ff,ff,ff,ff,ff,ff,ff,ff,ff,ff] ?_
             refine pV (i := 9) (N := some 47) #[tt,tt,tt,tt,tt,tt,tt,tt,tt,tt,ff,ff,ff,ff,ff,ff,ff,ff,ff,ff,ff,ff,ff,ff,ff,ff,ff,ff,ff,ff,ff,ff,ff,ff,ff,ff] ?_
             refine pV (i := 10) (N := some 48) #[tt,tt,tt,tt,tt,tt,tt,tt,tt,tt,tt,ff,ff,ff,ff,ff,ff,ff,ff,ff,ff,ff,ff,ff,ff,ff,ff,ff,ff,ff,ff,ff,ff,ff,ff,ff] ?_
             refine pV (i := 11) (N := some 49) #[tt,tt,tt,tt,tt,tt,tt,tt,tt,tt,tt,tt,ff,ff,ff,ff,ff,ff,ff,ff,ff,ff,ff,ff,ff,ff,ff,ff,ff,ff,ff,ff,ff,ff,ff,ff] ?_
             refine pV (i := 12) (N := some 50) #[tt,tt,tt,tt,tt,tt,tt,tt,tt,tt,tt,tt,tt,ff,ff,ff,ff,ff,ff,ff,ff,ff,ff,ff,ff,ff,ff,ff,ff,ff,ff,ff,ff,ff,ff,ff] ?_
             refine pV (i := 13) (N := some 51) #[tt,tt,tt,tt,tt,tt,tt,tt,tt,tt,tt,tt,tt,tt,ff,ff,ff,ff,ff,ff,ff,ff,ff,ff,ff,ff,ff,ff,ff,ff,ff,ff,ff,ff,ff,ff] ?_
             refine pV (i := 14) (N := some 52) #[tt,tt,tt,tt,tt,tt,tt,tt,tt,tt,tt,tt,tt,tt,tt,ff,ff,ff,ff,ff,ff,ff,ff,ff,ff,ff,ff,ff,ff,ff,ff,ff,ff,ff,ff,ff] ?_
             refine pV (i := 15) (N := some 53) #[tt,tt,tt,tt,tt,tt,tt,tt,tt,tt,tt,tt,tt,tt,tt,tt,ff,ff,ff,ff,ff,ff,ff,ff,ff,ff,ff,ff,ff,ff,ff,ff,ff,ff,ff,ff] ?_
             refine pV (i := 16) (N := some 54) #[tt,tt,tt,tt,tt,tt,tt,tt,tt,tt,tt,tt,tt,tt,tt,tt,tt,ff,ff,ff,ff,ff,ff,ff,ff,ff,ff,ff,ff,ff,ff,ff,ff,ff,ff,ff] ?_
             refine pV (i := 17) (N := some 55) #[tt,tt,tt,tt,tt,tt,tt,tt,tt,tt,tt,tt,tt,tt,tt,tt,tt,tt,ff,ff,ff,ff,ff,ff,ff,ff,ff,ff,ff,ff,ff,ff,ff,ff,ff,ff] ?_
             refine pU (i := 18) (N := some 56) #[tt,tt,tt,tt,tt,tt,tt,tt,tt,tt,tt,tt,tt,tt,tt,tt,tt,tt,tt,ff,ff,ff,ff,ff,ff,ff,ff,ff,ff,ff,ff,ff,ff,ff,ff,ff] ?_
             refine pU (i := 19) (N := some 57) #[tt,tt,tt,tt,tt,tt,tt,tt,tt,tt,tt,tt,tt,tt,tt,tt,tt,tt,tt,tt,ff,ff,ff,ff,ff,ff,ff,ff,ff,ff,ff,ff,ff,ff,ff,ff] ?_
             refine pU (i := 20) (N := some 58) #[tt,tt,tt,tt,tt,tt,tt,tt,tt,tt,tt,tt,tt,tt,tt,tt,tt,tt,tt,tt,tt,ff,ff,ff,ff,ff,ff,ff,ff,ff,ff,ff,ff,ff,ff,ff] ?_
             refine pU (i := 21) (N := some 59) #[tt,tt,tt,tt,tt,tt,tt,tt,tt,tt,tt,tt,tt,tt,tt,tt,tt,tt,tt,tt,tt,tt,ff,ff,ff,ff,ff,ff,ff,ff,ff,ff,ff,ff,ff,ff] ?_
             refine pU (i := 23) (N := some 61) #[tt,tt,tt,tt,tt,tt,tt,tt,tt,tt,tt,tt,tt,tt,tt,tt,tt,tt,tt,tt,tt,tt,ff,tt,ff,ff,ff,ff,ff,ff,ff,ff,ff,ff,ff,ff] ?_
             refine tK5 (i := 22) (N := some 60) #[tt,tt,tt,tt,tt,tt,tt,tt,tt,tt,tt,tt,tt,tt,tt,tt,tt,tt,tt,tt,tt,tt,tt,tt,ff,ff,ff,ff,ff,ff,ff,ff,ff,ff,ff,ff] ?_
             refine tK5 (i := 24) (N := some 62) #[tt,tt,tt,tt,tt,tt,tt,tt,tt,tt,tt,tt,tt,tt,tt,tt,tt,tt,tt,tt,tt,tt,tt,tt,tt,ff,ff,ff,ff,ff,ff,ff,ff,ff,ff,ff] ?_
             refine one_ (i := 25) (N := some 63) #[tt,tt,tt,tt,tt,tt,tt,tt,tt,tt,tt,tt,tt,tt,tt,tt,tt,tt,tt,tt,tt,tt,tt,tt,tt,tt,ff,ff,ff,ff,ff,ff,ff,ff,ff,ff] rfl rfl (one_of HT_.out (by kernel_rfl)) (by decide) (fun K hK => ?_)
             refine goes_ Try.func74 (by kernel_rfl) rfl #[.slice A104_2 ((rd_T56 l0_1 x33_2).f2).length c104_2, .slice A0_0 l0_0.length c0_0] (by rfl) rfl rfl (pY36) ?_
             with_reducible refine (impl_of.calls k2 _ _ ((rd_T56 l0_1 x33_2).f2) _ _ l0_0 false _ ?side1 ?side2 ?side3 ?side4 A39.out).mono ?_
             (case side1 => exact pC (Kd.C_below HR104_2.1 (pY30)))
             (case side2 => exact HC104_2.1)
             (case side3 => exact pC (Kd.C_below HR0_0.1 (pY30)))
             (case side4 => exact HC0_0.1)
             rintro e w' ⟨rfl, ⟨nd, rfl⟩⟩
             refine ⟨_, rfl, ?_⟩
             refine hK.out _ _ ⟨(blk_cell BK105.1 0).trans rfl, (blk_cell BK105.1 1).trans rfl, (blk_cell BK105.1 2).trans rfl, (blk_cell BK101.1 0).trans rfl, (blk_cell BK101.1 1).trans rfl⟩ (fun hHeld => ?_)
             clear hK K
             refine norm_ (a' := ?_) ?_ ?_
             rotate_left
             ·show Act.put _ (some 63) _ = _
              simp only [pW]
              rfl
             refine pU (i := 26) (N := some 64) #[tt,tt,tt,tt,tt,tt,tt,tt,tt,tt,tt,tt,tt,tt,tt,tt,tt,tt,tt,tt,tt,tt,tt,tt,tt,tt,tt,ff,ff,ff,ff,ff,ff,ff,ff,ff] ?_
             refine pU (i := 27) (N := some 65) #[tt,tt,tt,tt,tt,tt,tt,tt,tt,tt,tt,tt,tt,tt,tt,tt,tt,tt,tt,tt,tt,tt,tt,tt,tt,tt,tt,tt,ff,ff,ff,ff,ff,ff,ff,ff] ?_
             refine pU (i := 28) (N := some 66) #[tt,tt,tt,tt,tt,tt,tt,tt,tt,tt,tt,tt,tt,tt,tt,tt,tt,tt,tt,tt,tt,tt,tt,tt,tt,tt,tt,tt,tt,ff,ff,ff,ff,ff,ff,ff] ?_
             refine pV (i := 29) (N := some 67) #[tt,tt,tt,tt,tt,tt,tt,tt,tt,tt,tt,tt,tt,tt,tt,tt,tt,tt,tt,tt,tt,tt,tt,tt,tt,tt,tt,tt,tt,tt,ff,ff,ff,ff,ff,ff] ?_
             refine pV (i := 30) (N := some 68) #[tt,tt,tt,tt,tt,tt,tt,tt,tt,tt,tt,tt,tt,tt,tt,tt,tt,tt,tt,tt,tt,tt,tt,tt,tt,tt,tt,tt,tt,tt,tt,ff,ff,ff,ff,ff] ?_
             refine pV (i := 31) (N := some 69) #[tt,tt,tt,tt,tt,tt,tt,tt,tt,tt,tt,tt,tt,tt,tt,tt,tt,tt,tt,tt,tt,tt,tt,tt,tt,tt,tt,tt,tt,tt,tt,tt,ff,ff,ff,ff] ?_
             refine pV (i := 32) (N := some 70) #[tt,tt,tt,tt,tt,tt,tt,tt,tt,tt,tt,tt,tt,tt,tt,tt,tt,tt,tt,tt,tt,tt,tt,tt,tt,tt,tt,tt,tt,tt,tt,tt,tt,ff,ff,ff] ?_
             refine pV (i := 33) (N := some 71) #[tt,tt,tt,tt,tt,tt,tt,tt,tt,tt,tt,tt,tt,tt,tt,tt,tt,tt,tt,tt,tt,tt,tt,tt,tt,tt,tt,tt,tt,tt,tt,tt,tt,tt,ff,ff] ?_
             refine pV (i := 34) (N := some 72) #[tt,tt,tt,tt,tt,tt,tt,tt,tt,tt,tt,tt,tt,tt,tt,tt,tt,tt,tt,tt,tt,tt,tt,tt,tt,tt,tt,tt,tt,tt,tt,tt,tt,tt,tt,ff] ?_
             refine pU (i := 35) (N := some 73) #[tt,tt,tt,tt,tt,tt,tt,tt,tt,tt,tt,tt,tt,tt,tt,tt,tt,tt,tt,tt,tt,tt,tt,tt,tt,tt,tt,tt,tt,tt,tt,tt,tt,tt,tt,tt] ?_
             refine done_ (done_of HT_.out (by kernel_rfl)) ?_
             try go_wp2
             go_meet
             case rel => exact ⟨_, (true), (pY51), H', ⟨by have := HJ1.out; have := HK2.out; first | omega | exact Nat.le_refl _⟩, ⟨by (with_reducible repeat (first | refine blk_drewN ?_ _ | refine blk_drew ?_ | refine blk_alloc ?_ _)); exact BK101.1⟩, ⟨by (with_reducible repeat (first | refine blk_drewN ?_ _ | refine blk_drew ?_ | refine blk_alloc ?_ _)); exact BK105.1⟩, ⟨pY30⟩⟩
          ·replace c24 := Bool.eq_false_iff.mpr c24
           subst c24
           have H1 : (impl_ShareBookOk.j2 k2 x33_2 l0_1 (l0_1.length : Int) x33_2 true l0_0 l0_1 ((rd_T56 l0_1 x33_2).f0) ((rd_T56 l0_1 x33_2).f1) ((rd_T56 l0_1 x33_2).f2)) = some r := by rw [if_neg (show ¬ (false = true) by decide)] at H; exact H
           clear H
           have H := H1
           clear H1
           have H' := Aside0.mk H
           clear H
           try go_wp2
           have n0_ : Aside0 ((((w20.setCell ⟨gb105, 0, none⟩ (.string ((rd_T56 l0_1 x33_2).f0))).setCell ⟨gb105, 1, none⟩ (.slice A104_1 ((rd_T56 l0_1 x33_2).f1).length c104_1)).setCell ⟨gb105, 2, none⟩ (.slice A104_2 ((rd_T56 l0_1 x33_2).f2).length c104_2)).heap[gb101]? = some (.cells #[.slice A0_0 l0_0.length c0_0, .slice (some ad104) l0_1.length c0_1] 31 (0, 0))) := ⟨by (with_reducible repeat (first | refine blk_drewN ?_ _ | refine blk_drew ?_ | refine blk_alloc ?_ _)); refine blk_far ?_ NB101_105.1 _; (with_reducible repeat (first | refine blk_drewN ?_ _ | refine blk_drew ?_ | refine blk_alloc ?_ _)); refine blk_far ?_ NB101_105.1 _; (with_reducible repeat (first | refine blk_drewN ?_ _ | refine blk_drew ?_ | refine blk_alloc ?_ _)); refine blk_far ?_ NB101_105.1 _; (with_reducible repeat (first | refine blk_drewN ?_ _ | refine blk_drew ?_ | refine blk_alloc ?_ _)); exact BK101.1⟩
           have n1_ : Aside0 ((((w20.setCell ⟨gb105, 0, none⟩ (.string ((rd_T56 l0_1 x33_2).f0))).setCell ⟨gb105, 1, none⟩ (.slice A104_1 ((rd_T56 l0_1 x33_2).f1).length c104_1)).setCell ⟨gb105, 2, none⟩ (.slice A104_2 ((rd_T56 l0_1 x33_2).f2).length c104_2)).heap[gb105]? = some (.cells #[.string ((rd_T56 l0_1 x33_2).f0), .slice A104_1 ((rd_T56 l0_1 x33_2).f1).length c104_1, .slice A104_2 ((rd_T56 l0_1 x33_2).f2).length c104_2] 56 (0, 0))) := ⟨by (with_reducible repeat (first | refine blk_drewN ?_ _ | refine blk_drew ?_ | refine blk_alloc ?_ _)); refine blk_put (cs := #[.string ((rd_T56 l0_1 x33_2).f0), .slice A104_1 ((rd_T56 l0_1 x33_2).f1).length c104_1, .slice none 0 0]) ?_ 2 _ rfl; (with_reducible repeat (first | refine blk_drewN ?_ _ | refine blk_drew ?_ | refine blk_alloc ?_ _)); refine blk_put (cs := #[.string ((rd_T56 l0_1 x33_2).f0), .slice none 0 0, .slice none 0 0]) ?_ 1 _ rfl; (with_reducible repeat (first | refine blk_drewN ?_ _ | refine blk_drew ?_ | refine blk_alloc ?_ _)); refine blk_put (cs := #[.string (⟨#[]⟩ : ByteArray), .slice none 0 0, .slice none 0 0]) ?_ 0 _ rfl; (with_reducible repeat (first | refine blk_drewN ?_ _ | refine blk_drew ?_ | refine blk_alloc ?_ _)); exact BK105.1⟩
           have n2_ : Aside0 (Below w.heap.size w (((w20.setCell ⟨gb105, 0, none⟩ (.string ((rd_T56 l0_1 x33_2).f0))).setCell ⟨gb105, 1, none⟩ (.slice A104_1 ((rd_T56 l0_1 x33_2).f1).length c104_1)).setCell ⟨gb105, 2, none⟩ (.slice A104_2 ((rd_T56 l0_1 x33_2).f2).length c104_2))) := ⟨pY30⟩
           (try clear BK101)
           (try clear BK105)
           (try clear HB)
           generalize (((w20.setCell ⟨gb105, 0, none⟩ (.string ((rd_T56 l0_1 x33_2).f0))).setCell ⟨gb105, 1, none⟩ (.slice A104_1 ((rd_T56 l0_1 x33_2).f1).length c104_1)).setCell ⟨gb105, 2, none⟩ (.slice A104_2 ((rd_T56 l0_1 x33_2).f2).length c104_2)) = w46 at n0_ n1_ n2_ ⊢
           have BK101 := n0_
           have BK105 := n1_
           have HB := n2_
           clear n0_ n1_ n2_
           have n0_ := Aside0.mk (blk_drew BK101.1)
           have n1_ := Aside0.mk (blk_drew BK105.1)
           have n2_ := Aside0.mk (below_drew1 HB.1)
           clear BK101
           clear BK105
           clear HB
           have BK101 := n0_
           have BK105 := n1_
           have HB := n2_
           clear n0_ n1_ n2_
           refine start_ (n := 36) (S := fun w' => w'.cell? ⟨gb105, 0, none⟩ = some (.string ((rd_T56 l0_1 x33_2).f0)) ∧ w'.cell? ⟨gb105, 1, none⟩ = some (.slice A104_1 ((rd_T56 l0_1 x33_2).f1).length c104_1) ∧ w'.cell? ⟨gb105, 2, none⟩ = some (.slice A104_2 ((rd_T56 l0_1 x33_2).f2).length c104_2)) (ds := []) #[ff,ff,ff,ff,ff,ff,ff,ff,ff,ff,ff,ff,ff,ff,ff,ff,ff,ff,ff,ff,ff,ff,ff,ff,ff,ff,ff,ff,ff,ff,ff,ff,ff,ff,ff,ff] (by kernel_rfl) rfl rfl ⟨(blk_cell BK105.1 0).trans rfl, (blk_cell BK105.1 1).trans rfl, (blk_cell BK105.1 2).trans rfl⟩ (fun hHeld => ?_); refine with_tabW impl_ShareBookOk.tab6 impl_ShareBookOk.bits6 (fun HT_ HW_ => ?_)
           generalize w46.drew = w47 at BK101 BK105 HB hHeld ⊢
           refine pU (i := 0) (N := some 38) #[tt,ff,ff,ff,ff,ff,ff,ff,ff,ff,ff,ff,ff,ff,ff,ff,ff,ff,ff,ff,ff,ff,ff,ff,ff,ff,ff,ff,ff,ff,ff,ff,ff,ff,ff,ff] ?_
           refine tK3 (i := 1) (N := some 39) #[tt,tt,ff,ff,ff,ff,ff,ff,ff,ff,ff,ff,ff,ff,ff,ff,ff,ff,ff,ff,ff,ff,ff,ff,ff,ff,ff,ff,ff,ff,ff,ff,ff,ff,ff,ff] ?_
           refine one_ (i := 2) (N := some 40) #[tt,tt,tt,ff,ff,ff,ff,ff,ff,ff,ff,ff,ff,ff,ff,ff,ff,ff,ff,ff,ff,ff,ff,ff,ff,ff,ff,ff,ff,ff,ff,ff,ff,ff,ff,ff] rfl rfl (one_of HT_.out (by kernel_rfl)) (by decide) (fun K hK => ?_)
           refine goes_ Try.func77 (by kernel_rfl) rfl #[.string ((rd_T56 l0_1 x33_2).f0)] (by rfl) rfl rfl (pY36) ?_
           with_reducible refine (impl_name.calls k2 ((rd_T56 l0_1 x33_2).f0) false _ A23.out).mono ?_
           rintro e w' ⟨rfl, ⟨nd, rfl⟩⟩
           refine ⟨_, rfl, ?_⟩
           refine hK.out _ _ ⟨(blk_cell BK105.1 0).trans rfl, (blk_cell BK105.1 1).trans rfl, (blk_cell BK105.1 2).trans rfl⟩ (fun hHeld => ?_)
           clear hK K
           refine norm_ (a' := ?_) ?_ ?_
           rotate_left
           ·show Act.put _ (some 40) _ = _
            simp only [pW]
            rfl
           refine pU (i := 3) (N := some 41) #[tt,tt,tt,tt,ff,ff,ff,ff,ff,ff,ff,ff,ff,ff,ff,ff,ff,ff,ff,ff,ff,ff,ff,ff,ff,ff,ff,ff,ff,ff,ff,ff,ff,ff,ff,ff] ?_
           refine pU (i := 4) (N := some 42) #[tt,tt,tt,tt,tt,ff,ff,ff,ff,ff,ff,ff,ff,ff,ff,ff,ff,ff,ff,ff,ff,ff,ff,ff,ff,ff,ff,ff,ff,ff,ff,ff,ff,ff,ff,ff] ?_
           refine pV (i := 5) (N := some 43) #[tt,tt,tt,tt,tt,tt,ff,ff,ff,ff,ff,ff,ff,ff,ff,ff,ff,ff,ff,ff,ff,ff,ff,ff,ff,ff,ff,ff,ff,ff,ff,ff,ff,ff,ff,ff] ?_
           refine pV (i := 6) (N := some 44) #[tt,tt,tt,tt,tt,tt,tt,ff,ff,ff,ff,ff,ff,ff,ff,ff,ff,ff,ff,ff,ff,ff,ff,ff,ff,ff,ff,ff,ff,ff,ff,ff,ff,ff,ff,ff] ?_
           refine pV (i := 7) (N := some 45) #[tt,tt,tt,tt,tt,tt,tt,tt,ff,ff,ff,ff,ff,ff,ff,ff,ff,ff,ff,ff,ff,ff,ff,ff,ff,ff,ff,ff,ff,ff,ff,ff,ff,ff,ff,ff] ?_
           refine pV (i := 8) (N := some 46) #[tt,tt,tt,tt,tt,tt,tt,tt,tt,ff,ff,ff,ff,ff,ff,ff,ff,ff,ff,ff,ff,ff,ff,ff,ff,ff,ff,ff,ff,ff,ff,ff,ff,ff,ff,ff] ?_
           refine pV (i := 9) (N := some 47) #[tt,tt,tt,tt,tt,tt,tt,tt,tt,tt,ff,ff,ff,ff,ff,ff,ff,ff,ff,ff,ff,ff,ff,ff,ff,ff,ff,ff,ff,ff,ff,ff,ff,ff,ff,ff] ?_
           refine pV (i := 10) (N := some 48) #[tt,tt,tt,tt,tt,tt,tt,tt,tt,tt,tt,ff,ff,ff,ff,ff,ff,ff,ff,ff,ff,ff,ff,ff,ff,ff,ff,ff,ff,ff,ff,ff,ff,ff,ff,ff] ?_
           refine pV (i := 11) (N := some 49) #[tt,tt,tt,tt,tt,tt,tt,tt,tt,tt,tt,tt,ff,ff,ff,ff,ff,ff,ff,ff,ff,ff,ff,ff,ff,ff,ff,ff,ff,ff,ff,ff,ff,ff,ff,ff] ?_
           refine pV (i := 12) (N := some 50) #[tt,tt,tt,tt,tt,tt,tt,tt,tt,tt,tt,tt,tt,ff,ff,ff,ff,ff,ff,ff,ff,ff,ff,ff,ff,ff,ff,ff,ff,ff,ff,ff,ff,ff,ff,ff] ?_
           refine pV (i := 13) (N := some 51) #[tt,tt,tt,tt,tt,tt,tt,tt,tt,tt,tt,tt,tt,tt,ff,ff,ff,ff,ff,ff,ff,ff,ff,ff,ff,ff,ff,ff,ff,ff,ff,ff,ff,ff,ff,ff] ?_
           refine pV (i := 14) (N := some 52) #[tt,tt,tt,tt,tt,tt,tt,tt,tt,tt,tt,tt,tt,tt,tt,ff,ff,ff,ff,ff,ff,ff,ff,ff,ff,ff,ff,ff,ff,ff,ff,ff,ff,ff,ff,ff] ?_
           refine pV (i := 15) (N := some 53) #[tt,tt,tt,tt,tt,tt,tt,tt,tt,tt,tt,tt,tt,tt,tt,tt,ff,ff,ff,ff,ff,ff,ff,ff,ff,ff,ff,ff,ff,ff,ff,ff,ff,ff,ff,ff] ?_
           refine pV (i := 16) (N := some 54) #[tt,tt,tt,tt,tt,tt,tt,tt,tt,tt,tt,tt,tt,tt,tt,tt,tt,ff,ff,ff,ff,ff,ff,ff,ff,ff,ff,ff,ff,ff,ff,ff,ff,ff,ff,ff] ?_
           refine pV (i := 17) (N := some 55) #[tt,tt,tt,tt,tt,tt,tt,tt,tt,tt,tt,tt,tt,tt,tt,tt,tt,tt,ff,ff,ff,ff,ff,ff,ff,ff,ff,ff,ff,ff,ff,ff,ff,ff,ff,ff] ?_
           refine pV (i := 18) (N := some 56) #[tt,tt,tt,tt,tt,tt,tt,tt,tt,tt,tt,tt,tt,tt,tt,tt,tt,tt,tt,ff,ff,ff,ff,ff,ff,ff,ff,ff,ff,ff,ff,ff,ff,ff,ff,ff] ?_
           refine pU (i := 19) (N := some 57) #[tt,tt,tt,tt,tt,tt,tt,tt,tt,tt,tt,tt,tt,tt,tt,tt,tt,tt,tt,tt,ff,ff,ff,ff,ff,ff,ff,ff,ff,ff,ff,ff,ff,ff,ff,ff] ?_
           refine pU (i := 20) (N := some 58) #[tt,tt,tt,tt,tt,tt,tt,tt,tt,tt,tt,tt,tt,tt,tt,tt,tt,tt,tt,tt,tt,ff,ff,ff,ff,ff,ff,ff,ff,ff,ff,ff,ff,ff,ff,ff] ?_
           refine pV (i := 21) (N := some 59) #[tt,tt,tt,tt,tt,tt,tt,tt,tt,tt,tt,tt,tt,tt,tt,tt,tt,tt,tt,tt,tt,tt,ff,ff,ff,ff,ff,ff,ff,ff,ff,ff,ff,ff,ff,ff] ?_
           refine pV (i := 22) (N := some 60) #[tt,tt,tt,tt,tt,tt,tt,tt,tt,tt,tt,tt,tt,tt,tt,tt,tt,tt,tt,tt,tt,tt,tt,ff,ff,ff,ff,ff,ff,ff,ff,ff,ff,ff,ff,ff] ?_
           refine pV (i := 23) (N := some 61) #[tt,tt,tt,tt,tt,tt,tt,tt,tt,tt,tt,tt,tt,tt,tt,tt,tt,tt,tt,tt,tt,tt,tt,tt,ff,ff,ff,ff,ff,ff,ff,ff,ff,ff,ff,ff] ?_
           refine pV (i := 24) (N := some 62) #[tt,tt,tt,tt,tt,tt,tt,tt,tt,tt,tt,tt,tt,tt,tt,tt,tt,tt,tt,tt,tt,tt,tt,tt,tt,ff,ff,ff,ff,ff,ff,ff,ff,ff,ff,ff] ?_
           refine pV (i := 25) (N := some 63) #[tt,tt,tt,tt,tt,tt,tt,tt,tt,tt,tt,tt,tt,tt,tt,tt,tt,tt,tt,tt,tt,tt,tt,tt,tt,tt,ff,ff,ff,ff,ff,ff,ff,ff,ff,ff] ?_
           refine pV (i := 26) (N := some 64) #[tt,tt,tt,tt,tt,tt,tt,tt,tt,tt,tt,tt,tt,tt,tt,tt,tt,tt,tt,tt,tt,tt,tt,tt,tt,tt,tt,ff,ff,ff,ff,ff,ff,ff,ff,ff] ?_
           refine pU (i := 27) (N := some 65) #[tt,tt,tt,tt,tt,tt,tt,tt,tt,tt,tt,tt,tt,tt,tt,tt,tt,tt,tt,tt,tt,tt,tt,tt,tt,tt,tt,tt,ff,ff,ff,ff,ff,ff,ff,ff] ?_
           refine pU (i := 28) (N := some 66) #[tt,tt,tt,tt,tt,tt,tt,tt,tt,tt,tt,tt,tt,tt,tt,tt,tt,tt,tt,tt,tt,tt,tt,tt,tt,tt,tt,tt,tt,ff,ff,ff,ff,ff,ff,ff] ?_
           refine pV (i := 29) (N := some 67) #[tt,tt,tt,tt,tt,tt,tt,tt,tt,tt,tt,tt,tt,tt,tt,tt,tt,tt,tt,tt,tt,tt,tt,tt,tt,tt,tt,tt,tt,tt,ff,ff,ff,ff,ff,ff] ?_
           refine pV (i := 30) (N := some 68) #[tt,tt,tt,tt,tt,tt,tt,tt,tt,tt,tt,tt,tt,tt,tt,tt,tt,tt,tt,tt,tt,tt,tt,tt,tt,tt,tt,tt,tt,tt,tt,ff,ff,ff,ff,ff] ?_
           refine pV (i := 31) (N := some 69) #[tt,tt,tt,tt,tt,tt,tt,tt,tt,tt,tt,tt,tt,tt,tt,tt,tt,tt,tt,tt,tt,tt,tt,tt,tt,tt,tt,tt,tt,tt,tt,tt,ff,ff,ff,ff] ?_
           refine pV (i := 32) (N := some 70) #[tt,tt,tt,tt,tt,tt,tt,tt,tt,tt,tt,tt,tt,tt,tt,tt,tt,tt,tt,tt,tt,tt,tt,tt,tt,tt,tt,tt,tt,tt,tt,tt,tt,ff,ff,ff] ?_
           refine pV (i := 33) (N := some 71) #[tt,tt,tt,tt,tt,tt,tt,tt,tt,tt,tt,tt,tt,tt,tt,tt,tt,tt,tt,tt,tt,tt,tt,tt,tt,tt,tt,tt,tt,tt,tt,tt,tt,tt,ff,ff] ?_
           refine pV (i := 34) (N := some 72) #[tt,tt,tt,tt,tt,tt,tt,tt,tt,tt,tt,tt,tt,tt,tt,tt,tt,tt,tt,tt,tt,tt,tt,tt,tt,tt,tt,tt,tt,tt,tt,tt,tt,tt,tt,ff] ?_
           refine pU (i := 35) (N := some 73) #[tt,tt,tt,tt,tt,tt,tt,tt,tt,tt,tt,tt,tt,tt,tt,tt,tt,tt,tt,tt,tt,tt,tt,tt,tt,tt,tt,tt,tt,tt,tt,tt,tt,tt,tt,tt] ?_
           refine done_ (done_of HT_.out (by kernel_rfl)) ?_
           try go_wp2
           go_meet
           case rel => exact ⟨_, (true), (pY51), H', ⟨by have := HJ1.out; have := HK2.out; first | omega | exact Nat.le_refl _⟩, ⟨by (with_reducible repeat (first | refine blk_drewN ?_ _ | refine blk_drew ?_ | refine blk_alloc ?_ _)); exact BK101.1⟩, ⟨by (with_reducible repeat (first | refine blk_drewN ?_ _ | refine blk_drew ?_ | refine blk_alloc ?_ _)); exact BK105.1⟩, ⟨pY30⟩⟩
         case rest =>
          clear HC19
          try clear c1
          try clear c2
          try clear p2
          try clear c4
          try clear c7
          try clear c10
          try clear c24
          try clear c40
          obtain ⟨kq, x73_18, rfl, HA, HJ18, BK101, BK105, HB⟩ := hcut
          cases kq with
          | zero => exact absurd HA.out (by simp [impl_ShareBookOk.j2])
          | succ kj18 =>
           have H := HA.out
           clear HA
           simp only [impl_ShareBookOk.j2] at H
           by_cases c48 : x73_18 = true
           ·subst c48
            have H1 : (some false) = some r := by rw [if_pos rfl] at H; exact H
            clear H
            have H := H1
            clear H1
            obtain rfl := Option.some.inj H
            go_wp2
            go_ret
            exact ⟨by first | rfl | (simp [errW_none, errW_some] <;> rfl) | (simp [*, errW_none, errW_some] <;> rfl), pY30⟩
           ·replace c48 := Bool.eq_false_iff.mpr c48
            subst c48
            have H1 : (if 0 ≤ x33_2 then (if x33_2 ≤ (l0_1.length : Int) then ((some (l0_1.take (x33_2 : Int).toNat : List (S56))).bind fun y112 => (impl_ShareBookOk.l1 kj18 l0_1 (l0_1.length : Int) x33_2 y112 (y112.length : Int) 0 l0_0 l0_1 ((rd_T56 l0_1 x33_2).f0) ((rd_T56 l0_1 x33_2).f1) ((rd_T56 l0_1 x33_2).f2))) else (none)) else (none)) = some r := by rw [if_neg (show ¬ (false = true) by decide)] at H; exact H
            clear H
            have H := H1
            clear H1
            by_cases c49 : 0 ≤ x33_2
            ·rw [if_pos c49] at H
             have c49b0 := eq_true c49
             have c49b1 : decide (0 ≤ x33_2) = true := decide_eq_true c49
             clear c49
             by_cases c50 : x33_2 ≤ (l0_1.length : Int)
             ·rw [if_pos c50] at H
              have c50b0 := eq_true c50
              have c50b1 : decide (x33_2 ≤ (l0_1.length : Int)) = true := decide_eq_true c50
              clear c50
              obtain ⟨y112, hy112⟩ : ∃ y_ : List (S56), y_ = (l0_1.take (x33_2 : Int).toNat) := ⟨_, rfl⟩
              replace H : (impl_ShareBookOk.l1 kj18 l0_1 (l0_1.length : Int) x33_2 y112 (y112.length : Int) 0 l0_0 l0_1 ((rd_T56 l0_1 x33_2).f0) ((rd_T56 l0_1 x33_2).f1) ((rd_T56 l0_1 x33_2).f2)) = some r := by first | (rw [hy112]; with_reducible exact H) | (have H2_ := (Option.bind_some _ _).symm.trans H; rw [hy112]; with_reducible exact H2_) | (have H2_ := (Option.bind_some _ _).symm.trans H; with_reducible exact H2_) | with_reducible exact H | (rw [hy112]; exact H) | exact H
              have Ny112 := Aside0.mk hy112
              clear hy112
              have H' := Aside0.mk H
              clear H
              have hnb51 := NB101_105.1
              have hnc51 := NB105_101.1
              have hcz52_0 : wc.cell? ⟨gb101, 0, none⟩ = some (.slice A0_0 l0_0.length c0_0) := (blk_cell BK101.1 0).trans rfl
              have hcz52_1 : wc.cell? ⟨gb101, 1, none⟩ = some (.slice (some ad104) l0_1.length c0_1) := (blk_cell BK101.1 1).trans rfl
              have hfz52_0 := blk_frozen BK101.1 0
              have hfz52_1 := blk_frozen BK101.1 1
              have q53 : (x33_2 : Int) ≤ ((l0_1.length : Int) : Int) := of_decide_eq_true (pY50)
              obtain ⟨i053, hi053, _, hsz53, _⟩ := info_parts info56
              have hroom53 : l0_1.length ≤ c0_1 := HC0_1.1
              have hC53 : Kd.C k56 _ (some ad104) l0_1.length l0_1 := HR0_1.1
              have hcut53 := cut_to (P := Try.prog) 29 56 .i64 Try.underlying29 hi053 (some ad104) l0_1.length c0_1 x33_2 (of_decide_eq_true (pY50)) q53 hroom53
              have hr53 := Kd.C_take (m := (x33_2 : Int).toNat) hC53 (by omega)
              have hy53 : y112.length = (x33_2 : Int).toNat := (by rw [Ny112.out, List.length_take]; omega)
              rw [← Ny112.out] at hr53
              rw [← hy53] at hcut53
              have HR115 := Aside0.mk hr53
              have HC115 := Aside0.mk (show y112.length ≤ c0_1 from by omega)
              clear hr53 hC53 hroom53 hi053 hsz53
              have KY53 := Aside0.mk hy53
              clear hy53
              replace q53 := eq_true q53
              go_wp2
              go_loopg [79] kj18 (fun kq v79 w' => ∃ (x79_4 : Int), v79 = .int .i64 x79_4 ∧ Aside0 (impl_ShareBookOk.l1 kq l0_1 (l0_1.length : Int) x33_2 y112 (y112.length : Int) x79_4 l0_0 l0_1 ((rd_T56 l0_1 x33_2).f0) ((rd_T56 l0_1 x33_2).f1) ((rd_T56 l0_1 x33_2).f2) = some r) ∧ Aside0 (kq ≤ kj18) ∧ Aside0 (w'.heap[gb101]? = some (.cells #[(.slice A0_0 l0_0.length c0_0), (.slice (some ad104) l0_1.length c0_1)] 31 (0, 0))) ∧ Aside0 (w'.heap[gb105]? = some (.cells #[.string ((rd_T56 l0_1 x33_2).f0), (.slice A104_1 ((rd_T56 l0_1 x33_2).f1).length c104_1), (.slice A104_2 ((rd_T56 l0_1 x33_2).f2).length c104_2)] 56 (0, 0))) ∧ Aside0 (Below w.heap.size w w'))
              case atStart => exact ⟨(0), (pY51), H', ⟨Nat.le_refl _⟩, ⟨by (with_reducible repeat (first | refine blk_drewN ?_ _ | refine blk_drew ?_ | refine blk_alloc ?_ _)); exact BK101.1⟩, ⟨by (with_reducible repeat (first | refine blk_drewN ?_ _ | refine blk_drew ?_ | refine blk_alloc ?_ _)); exact BK105.1⟩, ⟨pY30⟩⟩
              case round =>
               clear H'
               try clear c1
               try clear c2
               try clear p2
               try clear c4
               try clear c5
               try clear q5
               try clear c7
               try clear c10
               try clear c24
               try clear c40
               try clear c48
               try clear c49
               try clear c49b0
               try clear c49b1
               try clear c50
               try clear c50b0
               try clear c50b1
               try clear c51
               try clear q53
               try clear hcz52_0
               try clear hcz52_1
               try clear hfz52_0
               try clear hfz52_1
               try clear p2
               try clear q53
               obtain ⟨x79_4, rfl, HA, HK4, BK101, BK105, HB⟩ := hrel
               cases gk with
               | zero => exact absurd HA.out (by simp [impl_ShareBookOk.l1])
               | succ k4 =>
                have H := HA.out
                clear HA
                simp only [impl_ShareBookOk.l1] at H
                by_cases c54 : x79_4 < (y112.length : Int)
                ·rw [if_pos c54] at H
                 have c54b0 : decide (x79_4 < (y112.length : Int)) = true := decide_eq_true c54
                 clear c54
                 by_cases c55 : 0 ≤ x79_4
                 ·rw [if_pos c55] at H
                  have c55b0 : decide (0 ≤ x79_4) = true := decide_eq_true c55
                  clear c55
                  by_cases c56 : x79_4 < (y112.length : Int)
                  ·rw [if_pos c56] at H
                   have c56b0 : decide (x79_4 < (y112.length : Int)) = true := decide_eq_true c56
                   clear c56
                   replace H := Option.bind_eq_some_iff.mp H
                   obtain ⟨t118, A570, H⟩ := H
                   replace H : (if t118 = true then (some false) else (impl_ShareBookOk.l1 k4 l0_1 (l0_1.length : Int) x33_2 y112 (y112.length : Int) (wrap64 (x79_4 + 1)) l0_0 l0_1 ((rd_T56 l0_1 x33_2).f0) ((rd_T56 l0_1 x33_2).f1) ((rd_T56 l0_1 x33_2).f2))) = some r := H
                   have A57 := Aside0.mk A570
                   clear A570
                   by_cases c58 : t118 = true
                   ·subst c58
                    have H1 : (some false) = some r := by rw [if_pos rfl] at H; exact H
                    clear H
                    have H := H1
                    clear H1
                    obtain rfl := Option.some.inj H
                    have p116 : 0 ≤ (x79_4 : Int) := of_decide_eq_true (pY50)
                    have q116 : x79_4 < (y112.length : Int) := of_decide_eq_true (pY50)
                    obtain ⟨ad116, A116_1, c116_1, A116_2, c116_2, e116, hx116_0, hx116_1, hx116_2, hl116_1, hi116_1, hl116_2, hi116_2⟩ := at_T56 HR115.1 x79_4 p116 q116
                    obtain rfl : ad104 = ad116 := (by injection e116)
                    replace hx116_0 := (HB.1.cell (World.block_lt_of_cell? w _ hx116_0)).trans hx116_0
                    replace hx116_1 := (HB.1.cell (World.block_lt_of_cell? w _ hx116_1)).trans hx116_1
                    replace hx116_2 := (HB.1.cell (World.block_lt_of_cell? w _ hx116_2)).trans hx116_2
                    have HR116_1 := Aside0.mk hi116_1
                    have HC116_1 := Aside0.mk hl116_1
                    clear hi116_1 hl116_1
                    have HR116_2 := Aside0.mk hi116_2
                    have HC116_2 := Aside0.mk hl116_2
                    clear hi116_2 hl116_2
                    replace p116 := eq_true p116
                    replace q116 := eq_true q116
                    go_wp2_with (first | ((with_reducible refine gate_dst (N := 6) rfl ?_); (try (refine gate_guard (by rfl) ?_; dsimp only)); refine box_event ?hg (N := 6) ?hd (cs := #[.string (⟨#[]⟩ : ByteArray), .slice none 0 0, .slice none 0 0]) (t := 56) ?hr ?_; (case hd => rfl); (case hg => rfl); (case hr => first | (go_simp; done) | (go_simp; rfl)); intro gb117 hg w59 hbox hb; have n0_ := Aside0.mk (blk_below (g := gb101) (o := .cells #[.slice A0_0 l0_0.length c0_0, .slice (some ad104) l0_1.length c0_1] 31 (0, 0)) (pY38) hb); have n1_ := Aside0.mk (blk_below (g := gb105) (o := .cells #[.string ((rd_T56 l0_1 x33_2).f0), .slice A104_1 ((rd_T56 l0_1 x33_2).f1).length c104_1, .slice A104_2 ((rd_T56 l0_1 x33_2).f2).length c104_2] 56 (0, 0)) (by (with_reducible repeat (first | refine blk_drewN ?_ _ | refine blk_drew ?_ | refine blk_alloc ?_ _)); exact BK105.1) hb); have n2_ := Aside0.mk (below_step (pY30) hb); have n3_ := Aside0.mk (hbox); have n4_ := Aside0.mk ((pY22 : w.heap.size ≤ gb117)); have n5_ := Aside0.mk ((pY22 : w.heap.size ≤ gb117)); have n6_ := Aside0.mk ((by rw [hg]; exact Nat.ne_of_lt (blk_lt (g := gb101) (o := .cells #[.slice A0_0 l0_0.length c0_0, .slice (some ad104) l0_1.length c0_1] 31 (0, 0)) (pY38)) : gb101 ≠ gb117)); have n7_ := Aside0.mk ((by rw [hg]; exact Nat.ne_of_gt (blk_lt (g := gb101) (o := .cells #[.slice A0_0 l0_0.length c0_0, .slice (some ad104) l0_1.length c0_1] 31 (0, 0)) (pY38)) : gb117 ≠ gb101)); have n8_ := Aside0.mk ((by rw [hg]; exact Nat.ne_of_lt (blk_lt (g := gb105) (o := .cells #[.string ((rd_T56 l0_1 x33_2).f0), .slice A104_1 ((rd_T56 l0_1 x33_2).f1).length c104_1, .slice A104_2 ((rd_T56 l0_1 x33_2).f2).length c104_2] 56 (0, 0)) (by (with_reducible repeat (first | refine blk_drewN ?_ _ | refine blk_drew ?_ | refine blk_alloc ?_ _)); exact BK105.1)) : gb105 ≠ gb117)); have n9_ := Aside0.mk ((by rw [hg]; exact Nat.ne_of_gt (blk_lt (g := gb105) (o := .cells #[.string ((rd_T56 l0_1 x33_2).f0), .slice A104_1 ((rd_T56 l0_1 x33_2).f1).length c104_1, .slice A104_2 ((rd_T56 l0_1 x33_2).f2).length c104_2] 56 (0, 0)) (by (with_reducible repeat (first | refine blk_drewN ?_ _ | refine blk_drew ?_ | refine blk_alloc ?_ _)); exact BK105.1)) : gb117 ≠ gb105)); clear BK101; clear BK105; clear HB; have BK101 := n0_; have BK105 := n1_; have HB := n2_; have BK117 := n3_; have GW117 := n4_; have GE117 := n5_; have NB101_117 := n6_; have NB117_101 := n7_; have NB105_117 := n8_; have NB117_105 := n9_; clear n0_ n1_ n2_ n3_ n4_ n5_ n6_ n7_ n8_ n9_; clear hb hbox hg; have hnb60 := NB117_101.1; have hnc60 := NB101_117.1; have hnb61 := NB117_105.1; have hnc61 := NB105_117.1; have hcz62_0 : w59.cell? ⟨gb117, 0, none⟩ = some (.string (⟨#[]⟩ : ByteArray)) := (blk_cell BK117.1 0).trans rfl; have hcz62_1 : w59.cell? ⟨gb117, 1, none⟩ = some (.slice none 0 0) := (blk_cell BK117.1 1).trans rfl; have hcz62_2 : w59.cell? ⟨gb117, 2, none⟩ = some (.slice none 0 0) := (blk_cell BK117.1 2).trans rfl; have hfz62_0 := blk_frozen BK117.1 0; have hfz62_1 := blk_frozen BK117.1 1; have hfz62_2 := blk_frozen BK117.1 2; have hnb63 := NB105_101.1; have hnc63 := NB101_105.1; have hcz64_0 : w59.cell? ⟨gb105, 0, none⟩ = some (.string ((rd_T56 l0_1 x33_2).f0)) := (blk_cell BK105.1 0).trans rfl; have hcz64_1 : w59.cell? ⟨gb105, 1, none⟩ = some (.slice A104_1 ((rd_T56 l0_1 x33_2).f1).length c104_1) := (blk_cell BK105.1 1).trans rfl; have hcz64_2 : w59.cell? ⟨gb105, 2, none⟩ = some (.slice A104_2 ((rd_T56 l0_1 x33_2).f2).length c104_2) := (blk_cell BK105.1 2).trans rfl; have hfz64_0 := blk_frozen BK105.1 0; have hfz64_1 := blk_frozen BK105.1 1; have hfz64_2 := blk_frozen BK105.1 2) | ((with_reducible refine gate_callee (f := 78) rfl ?_); refine goesL_ (some 87) rfl rfl Try.func78 (by kernel_rfl) rfl #[.slice A104_1 ((rd_T56 l0_1 x33_2).f1).length c104_1, .slice A116_1 ((rd_T56 y112 x79_4).f1).length c116_1] rfl (pY36) ?_; (with_reducible refine (impl_common.calls _ _ ((rd_T56 l0_1 x33_2).f1) _ _ ((rd_T56 y112 x79_4).f1) true _ ?side1 ?side2 ?side3 ?side4 A57.out).mono ?_); (case side1 => exact Kd.C_below HR104_1.1 (pY26)); (case side2 => exact HC104_1.1); (case side3 => exact Kd.C_below HR116_1.1 (pY26)); (case side4 => exact HC116_1.1); rintro e w65 ⟨rfl, hb⟩; refine ⟨_, rfl, ?_⟩; have n0_ := Aside0.mk (blk_below (g := gb101) (o := .cells #[.slice A0_0 l0_0.length c0_0, .slice (some ad104) l0_1.length c0_1] 31 (0, 0)) (by (with_reducible repeat (first | refine blk_drewN ?_ _ | refine blk_drew ?_ | refine blk_alloc ?_ _)); refine blk_far ?_ NB101_117.1 _; (with_reducible repeat (first | refine blk_drewN ?_ _ | refine blk_drew ?_ | refine blk_alloc ?_ _)); refine blk_far ?_ NB101_117.1 _; (with_reducible repeat (first | refine blk_drewN ?_ _ | refine blk_drew ?_ | refine blk_alloc ?_ _)); refine blk_far ?_ NB101_117.1 _; (with_reducible repeat (first | refine blk_drewN ?_ _ | refine blk_drew ?_ | refine blk_alloc ?_ _)); exact BK101.1) hb); have n1_ := Aside0.mk (blk_below (g := gb105) (o := .cells #[.string ((rd_T56 l0_1 x33_2).f0), .slice A104_1 ((rd_T56 l0_1 x33_2).f1).length c104_1, .slice A104_2 ((rd_T56 l0_1 x33_2).f2).length c104_2] 56 (0, 0)) (by (with_reducible repeat (first | refine blk_drewN ?_ _ | refine blk_drew ?_ | refine blk_alloc ?_ _)); refine blk_far ?_ NB105_117.1 _; (with_reducible repeat (first | refine blk_drewN ?_ _ | refine blk_drew ?_ | refine blk_alloc ?_ _)); refine blk_far ?_ NB105_117.1 _; (with_reducible repeat (first | refine blk_drewN ?_ _ | refine blk_drew ?_ | refine blk_alloc ?_ _)); refine blk_far ?_ NB105_117.1 _; (with_reducible repeat (first | refine blk_drewN ?_ _ | refine blk_drew ?_ | refine blk_alloc ?_ _)); exact BK105.1) hb); have n2_ := Aside0.mk (blk_below (g := gb117) (o := .cells #[.string ((rd_T56 y112 x79_4).f0), .slice A116_1 ((rd_T56 y112 x79_4).f1).length c116_1, .slice A116_2 ((rd_T56 y112 x79_4).f2).length c116_2] 56 (0, 0)) (pY0) hb); have n3_ := Aside0.mk (below_step (pY26) hb); clear BK101; clear BK105; clear BK117; clear HB; have BK101 := n0_; have BK105 := n1_; have BK117 := n2_; have HB := n3_; clear n0_ n1_ n2_ n3_; (try clear hb); (try clear hb2); (try clear hk); (try clear hi)))
                    go_ret
                    exact ⟨by first | rfl | (simp [errW_none, errW_some] <;> rfl) | (simp [*, errW_none, errW_some] <;> rfl), pY26⟩
                   ·replace c58 := Bool.eq_false_iff.mpr c58
                    subst c58
                    have H1 : (impl_ShareBookOk.l1 k4 l0_1 (l0_1.length : Int) x33_2 y112 (y112.length : Int) (wrap64 (x79_4 + 1)) l0_0 l0_1 ((rd_T56 l0_1 x33_2).f0) ((rd_T56 l0_1 x33_2).f1) ((rd_T56 l0_1 x33_2).f2)) = some r := by rw [if_neg (show ¬ (false = true) by decide)] at H; exact H
                    clear H
                    have H := H1
                    clear H1
                    have H' := Aside0.mk H
                    clear H
                    have p116 : 0 ≤ (x79_4 : Int) := of_decide_eq_true (pY50)
                    have q116 : x79_4 < (y112.length : Int) := of_decide_eq_true (pY50)
                    obtain ⟨ad116, A116_1, c116_1, A116_2, c116_2, e116, hx116_0, hx116_1, hx116_2, hl116_1, hi116_1, hl116_2, hi116_2⟩ := at_T56 HR115.1 x79_4 p116 q116
                    obtain rfl : ad104 = ad116 := (by injection e116)
                    replace hx116_0 := (HB.1.cell (World.block_lt_of_cell? w _ hx116_0)).trans hx116_0
                    replace hx116_1 := (HB.1.cell (World.block_lt_of_cell? w _ hx116_1)).trans hx116_1
                    replace hx116_2 := (HB.1.cell (World.block_lt_of_cell? w _ hx116_2)).trans hx116_2
                    have HR116_1 := Aside0.mk hi116_1
                    have HC116_1 := Aside0.mk hl116_1
                    clear hi116_1 hl116_1
                    have HR116_2 := Aside0.mk hi116_2
                    have HC116_2 := Aside0.mk hl116_2
                    clear hi116_2 hl116_2
                    replace p116 := eq_true p116
                    replace q116 := eq_true q116
                    go_wp2_with (first | ((with_reducible refine gate_dst (N := 6) rfl ?_); (try (refine gate_guard (by rfl) ?_; dsimp only)); refine box_event ?hg (N := 6) ?hd (cs := #[.string (⟨#[]⟩ : ByteArray), .slice none 0 0, .slice none 0 0]) (t := 56) ?hr ?_; (case hd => rfl); (case hg => rfl); (case hr => first | (go_simp; done) | (go_simp; rfl)); intro gb117 hg w66 hbox hb; have n0_ := Aside0.mk (blk_below (g := gb101) (o := .cells #[.slice A0_0 l0_0.length c0_0, .slice (some ad104) l0_1.length c0_1] 31 (0, 0)) (pY38) hb); have n1_ := Aside0.mk (blk_below (g := gb105) (o := .cells #[.string ((rd_T56 l0_1 x33_2).f0), .slice A104_1 ((rd_T56 l0_1 x33_2).f1).length c104_1, .slice A104_2 ((rd_T56 l0_1 x33_2).f2).length c104_2] 56 (0, 0)) (by (with_reducible repeat (first | refine blk_drewN ?_ _ | refine blk_drew ?_ | refine blk_alloc ?_ _)); exact BK105.1) hb); have n2_ := Aside0.mk (below_step (pY30) hb); have n3_ := Aside0.mk (hbox); have n4_ := Aside0.mk ((pY22 : w.heap.size ≤ gb117)); have n5_ := Aside0.mk ((pY22 : w.heap.size ≤ gb117)); have n6_ := Aside0.mk ((by rw [hg]; exact Nat.ne_of_lt (blk_lt (g := gb101) (o := .cells #[.slice A0_0 l0_0.length c0_0, .slice (some ad104) l0_1.length c0_1] 31 (0, 0)) (pY38)) : gb101 ≠ gb117)); have n7_ := Aside0.mk ((by rw [hg]; exact Nat.ne_of_gt (blk_lt (g := gb101) (o := .cells #[.slice A0_0 l0_0.length c0_0, .slice (some ad104) l0_1.length c0_1] 31 (0, 0)) (pY38)) : gb117 ≠ gb101)); have n8_ := Aside0.mk ((by rw [hg]; exact Nat.ne_of_lt (blk_lt (g := gb105) (o := .cells #[.string ((rd_T56 l0_1 x33_2).f0), .slice A104_1 ((rd_T56 l0_1 x33_2).f1).length c104_1, .slice A104_2 ((rd_T56 l0_1 x33_2).f2).length c104_2] 56 (0, 0)) (by (with_reducible repeat (first | refine blk_drewN ?_ _ | refine blk_drew ?_ | refine blk_alloc ?_ _)); exact BK105.1)) : gb105 ≠ gb117)); have n9_ := Aside0.mk ((by rw [hg]; exact Nat.ne_of_gt (blk_lt (g := gb105) (o := .cells #[.string ((rd_T56 l0_1 x33_2).f0), .slice A104_1 ((rd_T56 l0_1 x33_2).f1).length c104_1, .slice A104_2 ((rd_T56 l0_1 x33_2).f2).length c104_2] 56 (0, 0)) (by (with_reducible repeat (first | refine blk_drewN ?_ _ | refine blk_drew ?_ | refine blk_alloc ?_ _)); exact BK105.1)) : gb117 ≠ gb105)); clear BK101; clear BK105; clear HB; have BK101 := n0_; have BK105 := n1_; have HB := n2_; have BK117 := n3_; have GW117 := n4_; have GE117 := n5_; have NB101_117 := n6_; have NB117_101 := n7_; have NB105_117 := n8_; have NB117_105 := n9_; clear n0_ n1_ n2_ n3_ n4_ n5_ n6_ n7_ n8_ n9_; clear hb hbox hg; have hnb67 := NB117_101.1; have hnc67 := NB101_117.1; have hnb68 := NB117_105.1; have hnc68 := NB105_117.1; have hcz69_0 : w66.cell? ⟨gb117, 0, none⟩ = some (.string (⟨#[]⟩ : ByteArray)) := (blk_cell BK117.1 0).trans rfl; have hcz69_1 : w66.cell? ⟨gb117, 1, none⟩ = some (.slice none 0 0) := (blk_cell BK117.1 1).trans rfl; have hcz69_2 : w66.cell? ⟨gb117, 2, none⟩ = some (.slice none 0 0) := (blk_cell BK117.1 2).trans rfl; have hfz69_0 := blk_frozen BK117.1 0; have hfz69_1 := blk_frozen BK117.1 1; have hfz69_2 := blk_frozen BK117.1 2; have hnb70 := NB105_101.1; have hnc70 := NB101_105.1; have hcz71_0 : w66.cell? ⟨gb105, 0, none⟩ = some (.string ((rd_T56 l0_1 x33_2).f0)) := (blk_cell BK105.1 0).trans rfl; have hcz71_1 : w66.cell? ⟨gb105, 1, none⟩ = some (.slice A104_1 ((rd_T56 l0_1 x33_2).f1).length c104_1) := (blk_cell BK105.1 1).trans rfl; have hcz71_2 : w66.cell? ⟨gb105, 2, none⟩ = some (.slice A104_2 ((rd_T56 l0_1 x33_2).f2).length c104_2) := (blk_cell BK105.1 2).trans rfl; have hfz71_0 := blk_frozen BK105.1 0; have hfz71_1 := blk_frozen BK105.1 1; have hfz71_2 := blk_frozen BK105.1 2) | ((with_reducible refine gate_callee (f := 78) rfl ?_); refine goesL_ (some 87) rfl rfl Try.func78 (by kernel_rfl) rfl #[.slice A104_1 ((rd_T56 l0_1 x33_2).f1).length c104_1, .slice A116_1 ((rd_T56 y112 x79_4).f1).length c116_1] rfl (pY36) ?_; (with_reducible refine (impl_common.calls _ _ ((rd_T56 l0_1 x33_2).f1) _ _ ((rd_T56 y112 x79_4).f1) false _ ?side1 ?side2 ?side3 ?side4 A57.out).mono ?_); (case side1 => exact Kd.C_below HR104_1.1 (pY26)); (case side2 => exact HC104_1.1); (case side3 => exact Kd.C_below HR116_1.1 (pY26)); (case side4 => exact HC116_1.1); rintro e w72 ⟨rfl, hb⟩; refine ⟨_, rfl, ?_⟩; have n0_ := Aside0.mk (blk_below (g := gb101) (o := .cells #[.slice A0_0 l0_0.length c0_0, .slice (some ad104) l0_1.length c0_1] 31 (0, 0)) (by (with_reducible repeat (first | refine blk_drewN ?_ _ | refine blk_drew ?_ | refine blk_alloc ?_ _)); refine blk_far ?_ NB101_117.1 _; (with_reducible repeat (first | refine blk_drewN ?_ _ | refine blk_drew ?_ | refine blk_alloc ?_ _)); refine blk_far ?_ NB101_117.1 _; (with_reducible repeat (first | refine blk_drewN ?_ _ | refine blk_drew ?_ | refine blk_alloc ?_ _)); refine blk_far ?_ NB101_117.1 _; (with_reducible repeat (first | refine blk_drewN ?_ _ | refine blk_drew ?_ | refine blk_alloc ?_ _)); exact BK101.1) hb); have n1_ := Aside0.mk (blk_below (g := gb105) (o := .cells #[.string ((rd_T56 l0_1 x33_2).f0), .slice A104_1 ((rd_T56 l0_1 x33_2).f1).length c104_1, .slice A104_2 ((rd_T56 l0_1 x33_2).f2).length c104_2] 56 (0, 0)) (by (with_reducible repeat (first | refine blk_drewN ?_ _ | refine blk_drew ?_ | refine blk_alloc ?_ _)); refine blk_far ?_ NB105_117.1 _; (with_reducible repeat (first | refine blk_drewN ?_ _ | refine blk_drew ?_ | refine blk_alloc ?_ _)); refine blk_far ?_ NB105_117.1 _; (with_reducible repeat (first | refine blk_drewN ?_ _ | refine blk_drew ?_ | refine blk_alloc ?_ _)); refine blk_far ?_ NB105_117.1 _; (with_reducible repeat (first | refine blk_drewN ?_ _ | refine blk_drew ?_ | refine blk_alloc ?_ _)); exact BK105.1) hb); have n2_ := Aside0.mk (blk_below (g := gb117) (o := .cells #[.string ((rd_T56 y112 x79_4).f0), .slice A116_1 ((rd_T56 y112 x79_4).f1).length c116_1, .slice A116_2 ((rd_T56 y112 x79_4).f2).length c116_2] 56 (0, 0)) (pY0) hb); have n3_ := Aside0.mk (below_step (pY26) hb); clear BK101; clear BK105; clear BK117; clear HB; have BK101 := n0_; have BK105 := n1_; have BK117 := n2_; have HB := n3_; clear n0_ n1_ n2_ n3_; (try clear hb); (try clear hb2); (try clear hk); (try clear hi)))
                    go_roundg k4
                    case measure => have := HJ1.out; have := HK2.out; have := HJ18.out; have := HK4.out; omega
                    case rel => exact ⟨(wrap64 (x79_4 + 1)), (pY51), H', ⟨by have := HJ1.out; have := HK2.out; have := HJ18.out; have := HK4.out; omega⟩, ⟨by (with_reducible repeat (first | refine blk_drewN ?_ _ | refine blk_drew ?_ | refine blk_alloc ?_ _)); exact BK101.1⟩, ⟨by (with_reducible repeat (first | refine blk_drewN ?_ _ | refine blk_drew ?_ | refine blk_alloc ?_ _)); exact BK105.1⟩, ⟨pY26⟩⟩
                  ·rw [if_neg c56] at H
                   exact absurd H (by simp)
                 ·rw [if_neg c55] at H
                  exact absurd H (by simp)
                ·rw [if_neg c54] at H
                 have c54b0 : decide (x79_4 < (y112.length : Int)) = false := decide_eq_false c54
                 clear c54
                 have H' := Aside0.mk H
                 clear H
                 go_wp2
                 go_roundg k4
                 case measure => have := HJ1.out; have := HK2.out; have := HJ18.out; have := HK4.out; omega
                 case rel => exact ⟨(wrap64 (x33_2 + 1)), (pY51), H', ⟨by have := HJ1.out; have := HK2.out; have := HJ18.out; have := HK4.out; omega⟩, ⟨by (with_reducible repeat (first | refine blk_drewN ?_ _ | refine blk_drew ?_ | refine blk_alloc ?_ _)); exact BK101.1⟩, ⟨pY30⟩⟩
             ·rw [if_neg c50] at H
              exact absurd H (by simp)
            ·rw [if_neg c49] at H
             exact absurd H (by simp)
        ·rw [if_neg c18] at H
         exact absurd H (by simp)
       ·rw [if_neg c17] at H
        exact absurd H (by simp)
      ·rw [if_neg c16] at H
       have c16b0 : decide (x33_2 < (l0_1.length : Int)) = false := decide_eq_false c16
       clear c16
       obtain rfl := Option.some.inj H
       go_wp2
       go_ret
       exact ⟨by first | rfl | (simp [errW_none, errW_some] <;> rfl) | (simp [*, errW_none, errW_some] <;> rfl), pY35⟩
end Go.Proofs.Ytaofjgnhapnndaa.Q
namespace Go.Proofs.Ytaofjgnhapnndaa.Q
open Go.RowKit Go.Proofs.YtaofjgnhapnndaaW.PrintWords Go.Proofs.YtaofjgnhapnndaaW.PrintLast Go.Proofs.YtaofjgnhapnndaaW.PrintMore
set_option linter.unusedVariables false
set_option linter.unusedSimpArgs false
theorem Ev.pos {α : Type} {c : Prop} [Decidable c] {a b : Nat → Option α} {r : α} (h : c) (H : Ev a r) : Ev (fun k => if c then a k else b k) r := by
  obtain ⟨K, hK⟩ := H
  exact ⟨K, fun k hk => by simp only [if_pos h]; exact hK k hk⟩
theorem Ev.neg {α : Type} {c : Prop} [Decidable c] {a b : Nat → Option α} {r : α} (h : ¬ c) (H : Ev b r) : Ev (fun k => if c then a k else b k) r := by
  obtain ⟨K, hK⟩ := H
  exact ⟨K, fun k hk => by simp only [if_neg h]; exact hK k hk⟩
theorem Ev.ret {α : Type} {r s : α} (h : r = s) : Ev (fun _ => some r) s := ⟨0, fun _ _ => by rw [h]⟩
theorem Ev.sub {α : Type} {g : Nat → Option α} {r s : α} (H : Ev g r) (h : r = s) : Ev g s := h ▸ H
theorem Ev.test {α : Type} {a b : Nat → Option α} {r : α} (t : Bool) (H1 : t = true → Ev a r) (H2 : t = false → Ev b r) : Ev (fun k => if t = true then a k else b k) r := by
  cases t with
  | true => exact Ev.pos rfl (H1 rfl)
  | false => exact Ev.neg (by simp) (H2 rfl)
theorem Ev.prop {α : Type} {c : Prop} [Decidable c] {a b : Nat → Option α} {r : α} (H1 : c → Ev a r) (H2 : ¬ c → Ev b r) : Ev (fun k => if c then a k else b k) r := by
  by_cases h : c
  · exact Ev.pos h (H1 h)
  · exact Ev.neg h (H2 h)
theorem Ev.loop {α : Type} {f : Nat → Nat → Option α} {val : Nat → α} (n : Nat) (hend : Ev (fun k => f k n) (val n))
    (hstep : ∀ i, i < n → Ev (fun k => f k (i + 1)) (val (i + 1)) → Ev (fun k => f k i) (val i)) : ∀ i, i ≤ n → Ev (fun k => f k i) (val i) := by
  intro i hi
  obtain ⟨d, hd⟩ : ∃ d, n - i = d := ⟨_, rfl⟩
  induction d generalizing i with
  | zero => have : i = n := by omega
            subst this; exact hend
  | succ d ih => exact hstep i (by omega) (ih (i + 1) (by omega) (by omega))
def allR (P : Nat → Bool) (n i : Nat) : Bool := (List.range' i (n - i)).all P
def anyR (P : Nat → Bool) (n i : Nat) : Bool := (List.range' i (n - i)).any P
theorem allR_end (P : Nat → Bool) (n : Nat) : allR P n n = true := by simp [allR]
theorem anyR_end (P : Nat → Bool) (n : Nat) : anyR P n n = false := by simp [anyR]
theorem allR_step (P : Nat → Bool) {n i : Nat} (h : i < n) : allR P n i = (P i && allR P n (i + 1)) := by
  unfold allR; rw [show n - i = (n - (i + 1)) + 1 by omega, List.range'_succ, List.all_cons]
theorem anyR_step (P : Nat → Bool) {n i : Nat} (h : i < n) : anyR P n i = (P i || anyR P n (i + 1)) := by
  unfold anyR; rw [show n - i = (n - (i + 1)) + 1 by omega, List.range'_succ, List.any_cons]
theorem allR_iff (P : Nat → Bool) (n i : Nat) : allR P n i = true ↔ ∀ j, i ≤ j → j < n → P j = true := by
  unfold allR; rw [List.all_eq_true]
  constructor
  · intro h j h1 h2; exact h j (by rw [List.mem_range'_1]; omega)
  · intro h j hj; rw [List.mem_range'_1] at hj; exact h j (by omega) (by omega)
theorem anyR_iff (P : Nat → Bool) (n i : Nat) : anyR P n i = true ↔ ∃ j, i ≤ j ∧ j < n ∧ P j = true := by
  unfold anyR; rw [List.any_eq_true]
  constructor
  · rintro ⟨j, hj, h⟩; rw [List.mem_range'_1] at hj; exact ⟨j, by omega, by omega, h⟩
  · rintro ⟨j, h1, h2, h⟩; exact ⟨j, by rw [List.mem_range'_1]; omega, h⟩
theorem Ev.loopAll {f : Nat → Nat → Option Bool} {P : Nat → Bool} (n : Nat) (hend : Ev (fun k => f k n) true)
    (hyes : ∀ i r, i < n → P i = true → Ev (fun k => f k (i + 1)) r → Ev (fun k => f k i) r) (hno : ∀ i, i < n → P i = false → Ev (fun k => f k i) false) : ∀ i, i ≤ n → Ev (fun k => f k i) (allR P n i) :=
  Ev.loop (val := allR P n) n (by rw [allR_end]; exact hend) fun i hi H => by
    rw [allR_step P hi]
    cases h : P i with
    | true => exact hyes i _ hi h H
    | false => exact hno i hi h
theorem Ev.loopAny {f : Nat → Nat → Option Bool} {P : Nat → Bool} (n : Nat) (hend : Ev (fun k => f k n) false)
    (hno : ∀ i r, i < n → P i = false → Ev (fun k => f k (i + 1)) r → Ev (fun k => f k i) r) (hyes : ∀ i, i < n → P i = true → Ev (fun k => f k i) true) : ∀ i, i ≤ n → Ev (fun k => f k i) (anyR P n i) :=
  Ev.loop (val := anyR P n) n (by rw [anyR_end]; exact hend) fun i hi H => by
    rw [anyR_step P hi]
    cases h : P i with
    | false => exact hno i _ hi h H
    | true => exact hyes i hi h
theorem anyR_list {α : Type} (p : α → Bool) (z : α) (l : List α) : anyR (fun j => p (l.getD j z)) l.length 0 = l.any p := by
  rw [Bool.eq_iff_iff, anyR_iff, List.any_eq_true]
  constructor
  · rintro ⟨j, _, h, hp⟩; exact ⟨l.getD j z, by rw [List.getD_eq_getElem?_getD, List.getElem?_eq_getElem h]; exact List.getElem_mem h, hp⟩
  · rintro ⟨x, hx, hp⟩; obtain ⟨j, h, rfl⟩ := List.getElem_of_mem hx; exact ⟨j, by omega, h, by rw [List.getD_eq_getElem?_getD, List.getElem?_eq_getElem h]; exact hp⟩
theorem rdOf_cast {α : Type} (d : α) (l : List α) (i : Nat) : rdOf d l (i : Int) = l.getD i d := by
  unfold rdOf; rw [Int.toNat_natCast]
theorem wrap_up {i n : Nat} (h : i < n) (hn : n ≤ 9223372036854775807) : wrap64 ((i : Int) + 1) = ((i + 1 : Nat) : Int) := by
  unfold wrap64; omega
theorem wrap_down {i : Nat} (h : 0 < i) (hn : i ≤ 9223372036854775807) : wrap64 ((i : Int) - 1) = ((i - 1 : Nat) : Int) := by
  unfold wrap64; omega
theorem wrap_sub {a b : Int} (ha : a ≤ 9223372036854775807) (h0 : 0 ≤ a) (hb : 0 ≤ b) (hb2 : b ≤ 9223372036854775807) : wrap64 (a - b) = a - b := by
  unfold wrap64; omega
end Go.Proofs.Ytaofjgnhapnndaa.Q
namespace Go.Proofs.Ytaofjgnhapnndaa.Q
open Go.RowKit Go.Proofs.YtaofjgnhapnndaaW.PrintWords Go.Proofs.YtaofjgnhapnndaaW.PrintLast Go.Proofs.YtaofjgnhapnndaaW.PrintMore
set_option linter.unusedVariables false
set_option linter.unusedSimpArgs false
def gS (l : List ByteArray) (i : Nat) : ByteArray := l.getD i ByteArray.empty
def ltB (a b : ByteArray) : Bool := Op.bytesLess a.toList b.toList
theorem rdS_cast (l : List ByteArray) (i : Nat) : rdOf ByteArray.empty l (i : Int) = gS l i := rdOf_cast _ _ _
def namesP (l all : List ByteArray) (j : Nat) : Bool := hasS all (gS l j) && (decide (j = 0) || ltB (gS l (j - 1)) (gS l j))
def namesB (l all : List ByteArray) : Bool := allR (namesP l all) l.length 0
def shareB (a b : List ByteArray) : Bool := a.any (hasS b)
def thingsP (l : List ByteArray) (j : Nat) : Bool := nameB (gS l j) && (decide (j = 0) || ltB (gS l (j - 1)) (gS l j))
def thingsB (l : List ByteArray) : Bool := decide (l.length ≤ 8) && allR (thingsP l) l.length 0
theorem ahead_ev {α : Type} {l : List ByteArray} {i : Nat} (hi : i < l.length) (hl : l.length ≤ 9223372036854775807) {a b : Nat → Option α} {r : α}
    (H1 : (decide (i = 0) || ltB (gS l (i - 1)) (gS l i)) = true → Ev a r) (H2 : (decide (i = 0) || ltB (gS l (i - 1)) (gS l i)) = false → Ev b r) :
    Ev (fun k => if (i : Int) > 0 then (if 0 ≤ (wrap64 ((i : Int) - 1)) then (if (wrap64 ((i : Int) - 1)) < (l.length : Int) then (if ((Op.bytesLess ((rdOf ByteArray.empty l (wrap64 ((i : Int) - 1))).toList) ((rdOf ByteArray.empty l (i : Int)).toList)) = true) then a k else b k) else none) else none) else a k) r := by
  by_cases h0 : i = 0
  · exact Ev.neg (by omega) (H1 (by simp [h0]))
  · rw [wrap_down (by omega) (by omega), rdS_cast, rdS_cast]
    refine Ev.pos (by omega) (Ev.pos (by omega) (Ev.pos (by omega) (Ev.test _ (fun h => H1 ?_) (fun h => H2 ?_))))
    · simp only [ltB, h, Bool.or_true]
    · simp only [ltB, h, h0, decide_false, Bool.or_false]
theorem spec_l1In_at (n low high : Int) : spec_l1In.f n low high = some (decide (low ≤ n) && decide (n ≤ high)) := by
  unfold spec_l1In.f
  by_cases h : n ≥ low
  · rw [if_pos h, show decide (low ≤ n) = true from decide_eq_true h]; rfl
  · rw [if_neg h, show decide (low ≤ n) = false from decide_eq_false h]; rfl
theorem spec_l1NameOk_ev (s : ByteArray) : Ev (fun k => spec_l1NameOk.f k s) (nameB s) := by
  unfold spec_l1NameOk.f
  simp only [spec_l1In_at, Option.bind_some]
  refine Ev.test _ (fun h => ?_) (fun h => ?_)
  · simp only [Bool.and_eq_true, decide_eq_true_eq] at h
    have E := Ev.loopAll (f := fun k i => spec_l1NameOk.l0 k s (i : Int)) (P := fun j => okc (bt s (j : Int))) s.size
      (by refine Ev.step (fun k => spec_l1NameOk.l0.eq_2 s _ k) ?_
          exact Ev.neg (by omega) (Ev.ret rfl))
      (fun i r hi hp H => by
        refine Ev.step (fun k => spec_l1NameOk.l0.eq_2 s _ k) ?_
        refine Ev.pos (by omega) (Ev.pos (by omega) ?_)
        simp only [okc_ite]
        rw [wrap_up hi (by omega)]
        exact Ev.pos hp H)
      (fun i hi hp => by
        refine Ev.step (fun k => spec_l1NameOk.l0.eq_2 s _ k) ?_
        refine Ev.pos (by omega) (Ev.pos (by omega) ?_)
        simp only [okc_ite]
        exact Ev.neg (by simp [hp]) (Ev.ret rfl)) 0 (by omega)
    refine Ev.sub E ?_
    unfold nameB allR
    rw [show decide (1 ≤ s.size) = true from decide_eq_true (by omega), show decide (s.size ≤ 8) = true from decide_eq_true (by omega)]
    rfl
  · refine Ev.ret ?_
    unfold nameB
    by_cases h1 : 1 ≤ s.size
    · by_cases h2 : s.size ≤ 8
      · have : (decide ((1 : Int) ≤ (s.size : Int)) && decide ((s.size : Int) ≤ 8)) = true := by simp; omega
        rw [this] at h; cases h
      · simp [h2]
    · simp [h1]
theorem spec_l1Has_ev (l : List ByteArray) (s : ByteArray) (hl : l.length ≤ 9223372036854775807) : Ev (fun k => spec_l1Has.f k l s) (hasS l s) := by
  unfold spec_l1Has.f
  have E := Ev.loopAny (f := fun k i => spec_l1Has.l0 k l s (i : Int)) (P := fun j => (fun x : ByteArray => s.toList == x.toList) (l.getD j ByteArray.empty)) l.length
    (by refine Ev.step (fun k => spec_l1Has.l0.eq_2 l s _ k) ?_
        exact Ev.neg (by omega) (Ev.ret rfl))
    (fun i r hi hp H => by
      refine Ev.step (fun k => spec_l1Has.l0.eq_2 l s _ k) ?_
      refine Ev.pos (by omega) (Ev.pos (by omega) ?_)
      rw [wrap_up hi hl, rdS_cast]
      exact Ev.neg (fun e => by simp [← e, gS] at hp) H)
    (fun i hi hp => by
      refine Ev.step (fun k => spec_l1Has.l0.eq_2 l s _ k) ?_
      refine Ev.pos (by omega) (Ev.pos (by omega) ?_)
      rw [rdS_cast]
      exact Ev.pos (beq_iff_eq.mp (show (s.toList == (gS l i).toList) = true from hp)).symm (Ev.ret rfl)) 0 (by omega)
  exact Ev.sub E (anyR_list (fun x : ByteArray => s.toList == x.toList) ByteArray.empty l)
theorem contains_ev (l : List ByteArray) (s : ByteArray) (hl : l.length ≤ 9223372036854775807) : Ev (fun k => slices_Contains_string_string.f k l s) (hasS l s) :=
  Ev.of (slices_Contains_string_string.mono l s) (contains_at l s hl)
theorem name_ev (s : ByteArray) : Ev (fun k => impl_name.f k s) (nameB s) := Ev.of (impl_name.mono s) (name_at s)
theorem spec_l1NamesOk_ev (l all : List ByteArray) (hl : l.length ≤ 9223372036854775807) (ha : all.length ≤ 9223372036854775807) : Ev (fun k => spec_l1NamesOk.f k l all) (namesB l all) := by
  unfold spec_l1NamesOk.f
  refine Ev.loopAll (f := fun k i => spec_l1NamesOk.l0 k l all (i : Int)) (P := namesP l all) l.length
    (by refine Ev.step (fun k => spec_l1NamesOk.l0.eq_2 l all _ k) ?_
        exact Ev.neg (by omega) (Ev.ret rfl))
    (fun i r hi hp H => by
      simp only [namesP, Bool.and_eq_true] at hp
      refine Ev.step (fun k => spec_l1NamesOk.l0.eq_2 l all _ k) ?_
      refine Ev.pos (by omega) (Ev.pos (by omega) (Ev.bind (spec_l1Has_ev all _ ha) ?_))
      rw [rdS_cast, hp.1]
      refine Ev.pos rfl (ahead_ev hi hl (fun _ => ?_) (fun h => by rw [hp.2] at h; cases h))
      rw [wrap_up hi hl]
      exact H)
    (fun i hi hp => by
      refine Ev.step (fun k => spec_l1NamesOk.l0.eq_2 l all _ k) ?_
      refine Ev.pos (by omega) (Ev.pos (by omega) (Ev.bind (spec_l1Has_ev all _ ha) ?_))
      rw [rdS_cast]
      refine Ev.test _ (fun h1 => ahead_ev hi hl (fun h2 => ?_) (fun h => Ev.ret rfl)) (fun _ => Ev.ret rfl)
      simp only [namesP, h1, h2, Bool.and_true] at hp
      cases hp) 0 (by omega)
theorem impl_of_ev (l all : List ByteArray) (hl : l.length ≤ 9223372036854775807) (ha : all.length ≤ 9223372036854775807) : Ev (fun k => impl_of.f k l all) (namesB l all) := by
  unfold impl_of.f
  refine Ev.loopAll (f := fun k i => impl_of.l0 k l all l (l.length : Int) (i : Int)) (P := namesP l all) l.length
    (by refine Ev.step (fun k => impl_of.l0.eq_2 l all l _ _ k) ?_
        exact Ev.neg (by omega) (Ev.ret rfl))
    (fun i r hi hp H => by
      simp only [namesP, Bool.and_eq_true] at hp
      refine Ev.step (fun k => impl_of.l0.eq_2 l all l _ _ k) ?_
      refine Ev.pos (by omega) (Ev.pos (by omega) (Ev.pos (by omega) (Ev.bind (contains_ev all _ ha) ?_)))
      rw [rdS_cast, hp.1]
      refine Ev.pos rfl (ahead_ev hi hl (fun _ => ?_) (fun h => by rw [hp.2] at h; cases h))
      rw [wrap_up hi hl]
      exact H)
    (fun i hi hp => by
      refine Ev.step (fun k => impl_of.l0.eq_2 l all l _ _ k) ?_
      refine Ev.pos (by omega) (Ev.pos (by omega) (Ev.pos (by omega) (Ev.bind (contains_ev all _ ha) ?_)))
      rw [rdS_cast]
      refine Ev.test _ (fun h1 => ahead_ev hi hl (fun h2 => ?_) (fun h => Ev.ret rfl)) (fun _ => Ev.ret rfl)
      simp only [namesP, h1, h2, Bool.and_true] at hp
      cases hp) 0 (by omega)
theorem spec_l1ThingsOk_ev (l : List ByteArray) : Ev (fun k => spec_l1ThingsOk.f k l) (thingsB l) := by
  unfold spec_l1ThingsOk.f thingsB
  refine Ev.prop (fun h => Ev.ret (by rw [show decide (l.length ≤ 8) = false from decide_eq_false (by omega)]; rfl)) (fun h => ?_)
  rw [show decide (l.length ≤ 8) = true from decide_eq_true (by omega), Bool.true_and]
  have hl : l.length ≤ 9223372036854775807 := by omega
  refine Ev.loopAll (f := fun k i => spec_l1ThingsOk.l0 k l (i : Int)) (P := thingsP l) l.length
    (by refine Ev.step (fun k => spec_l1ThingsOk.l0.eq_2 l _ k) ?_
        exact Ev.neg (by omega) (Ev.ret rfl))
    (fun i r hi hp H => by
      simp only [thingsP, Bool.and_eq_true] at hp
      refine Ev.step (fun k => spec_l1ThingsOk.l0.eq_2 l _ k) ?_
      refine Ev.pos (by omega) (Ev.pos (by omega) (Ev.bind (spec_l1NameOk_ev _) ?_))
      rw [rdS_cast, hp.1]
      refine Ev.pos rfl (ahead_ev hi hl (fun _ => ?_) (fun h => by rw [hp.2] at h; cases h))
      rw [wrap_up hi hl]
      exact H)
    (fun i hi hp => by
      refine Ev.step (fun k => spec_l1ThingsOk.l0.eq_2 l _ k) ?_
      refine Ev.pos (by omega) (Ev.pos (by omega) (Ev.bind (spec_l1NameOk_ev _) ?_))
      rw [rdS_cast]
      refine Ev.test _ (fun h1 => ahead_ev hi hl (fun h2 => ?_) (fun h => Ev.ret rfl)) (fun _ => Ev.ret rfl)
      simp only [thingsP, h1, h2, Bool.and_true] at hp
      cases hp) 0 (by omega)
theorem spec_l1Share_ev (a b : List ByteArray) (ha : a.length ≤ 9223372036854775807) (hb : b.length ≤ 9223372036854775807) : Ev (fun k => spec_l1Share.f k a b) (shareB a b) := by
  unfold spec_l1Share.f
  have E := Ev.loopAny (f := fun k i => spec_l1Share.l0 k a b (i : Int)) (P := fun j => hasS b (a.getD j ByteArray.empty)) a.length
    (by refine Ev.step (fun k => spec_l1Share.l0.eq_2 a b _ k) ?_
        exact Ev.neg (by omega) (Ev.ret rfl))
    (fun i r hi hp H => by
      refine Ev.step (fun k => spec_l1Share.l0.eq_2 a b _ k) ?_
      refine Ev.pos (by omega) (Ev.pos (by omega) (Ev.bind (spec_l1Has_ev b _ hb) ?_))
      rw [rdS_cast, wrap_up hi ha]
      exact Ev.neg (by rw [show hasS b (gS a i) = false from hp]; simp) H)
    (fun i hi hp => by
      refine Ev.step (fun k => spec_l1Share.l0.eq_2 a b _ k) ?_
      refine Ev.pos (by omega) (Ev.pos (by omega) (Ev.bind (spec_l1Has_ev b _ hb) ?_))
      rw [rdS_cast]
      exact Ev.pos hp (Ev.ret rfl)) 0 (by omega)
  exact Ev.sub E (anyR_list (hasS b) ByteArray.empty a)
end Go.Proofs.Ytaofjgnhapnndaa.Q
namespace Go.Proofs.Ytaofjgnhapnndaa.Q
open Go.RowKit Go.Proofs.YtaofjgnhapnndaaW.PrintWords Go.Proofs.YtaofjgnhapnndaaW.PrintLast Go.Proofs.YtaofjgnhapnndaaW.PrintMore
set_option linter.unusedVariables false
set_option linter.unusedSimpArgs false
abbrev LB := S94
abbrev IB := S56
def toB (b : LB) : IB := ⟨b.f0, b.f1, b.f2⟩
def gB (l : List IB) (i : Nat) : IB := l.getD i z56
def gL (l : List LB) (i : Nat) : LB := l.getD i z94
theorem rdB_cast (l : List IB) (i : Nat) : rd_T56 l (i : Int) = gB l i := by unfold rd_T56 gB; rw [Int.toNat_natCast]
theorem rdL_cast (l : List LB) (i : Nat) : rd_T94 l (i : Int) = gL l i := by unfold rd_T94 gL; rw [Int.toNat_natCast]
theorem getD_lt {α : Type} (l : List α) (z : α) {i : Nat} (h : i < l.length) : l.getD i z = l[i] := by rw [List.getD_eq_getElem?_getD, List.getElem?_eq_getElem h]; rfl
def sumS (l : List ByteArray) : Nat := (l.map ByteArray.size).sum
def wS (l : List ByteArray) : Nat := l.length + sumS l
def wL (b : LB) : Nat := b.f0.size + wS b.f1 + wS b.f2
def sumL (l : List LB) : Nat := (l.map wL).sum
def wBook (ts : List ByteArray) (bs : List LB) : Nat := wS ts + (bs.length + sumL bs)
def left (n : Nat) (a : Int) : Int := if (n : Int) ≤ a then a - n else -1
theorem szStringS_go (l : List ByteArray) (hl : l.length ≤ 9223372036854775807) (hs : ∀ s ∈ l, s.size ≤ 9223372036854775807) : ∀ (d i : Nat) (a : Int), l.length - i = d → i ≤ l.length → 0 ≤ a → a ≤ 9223372036854775807 →
    Ev (fun k => laws_szStringS.l0 k l a (i : Int)) (left (sumS (l.drop i)) a) := by
  intro d
  induction d with
  | zero =>
    intro i a hd hi h0 h1
    refine Ev.step (fun k => laws_szStringS.l0.eq_2 l a _ k) ?_
    refine Ev.neg (by omega) (Ev.ret ?_)
    rw [List.drop_eq_nil_of_le (by omega)]
    simp [sumS, left, h0]
  | succ d ih =>
    intro i a hd hi h0 h1
    have hlt : i < l.length := by omega
    have hz : l[i].size ≤ 9223372036854775807 := hs _ (List.getElem_mem hlt)
    refine Ev.step (fun k => laws_szStringS.l0.eq_2 l a _ k) ?_
    refine Ev.pos (by omega) (Ev.pos (by omega) ?_)
    rw [rdS_cast, show gS l i = l[i] from getD_lt l _ hlt, wrap_sub h1 h0 (by omega) (by omega), wrap_up hlt hl]
    have hsum : sumS (l.drop i) = l[i].size + sumS (l.drop (i + 1)) := by rw [List.drop_eq_getElem_cons hlt]; simp only [sumS, List.map_cons, List.sum_cons]
    rw [hsum]
    refine Ev.prop (fun h => Ev.ret ?_) (fun h => ?_)
    · unfold left; rw [if_neg (by omega)]
    · refine Ev.sub (ih (i + 1) (a - l[i].size) (by omega) (by omega) (by omega) (by omega)) ?_
      unfold left
      by_cases h2 : (((l[i].size + sumS (l.drop (i + 1)) : Nat)) : Int) ≤ a
      · rw [if_pos h2, if_pos (by omega)]; omega
      · rw [if_neg h2, if_neg (by omega)]
theorem szStringS_ev (l : List ByteArray) (a : Int) (hl : l.length ≤ 9223372036854775807) (hs : ∀ s ∈ l, s.size ≤ 9223372036854775807) (h0 : 0 ≤ a) (h1 : a ≤ 9223372036854775807) : Ev (fun k => laws_szStringS.f k l a) (left (wS l) a) := by
  unfold laws_szStringS.f
  rw [wrap_sub h1 h0 (by omega) (by omega)]
  refine Ev.prop (fun h => Ev.ret ?_) (fun h => ?_)
  · unfold left wS; rw [if_neg (by omega)]
  · refine Ev.sub (szStringS_go l hl hs l.length 0 (a - l.length) (by omega) (by omega) (by omega) (by omega)) ?_
    rw [List.drop_zero]
    unfold left wS
    by_cases h2 : (((l.length + sumS l : Nat)) : Int) ≤ a
    · rw [if_pos h2, if_pos (by omega)]; omega
    · rw [if_neg h2, if_neg (by omega)]
def LBok (b : LB) : Prop := b.f0.size ≤ 9223372036854775807 ∧ (b.f1.length ≤ 9223372036854775807 ∧ ∀ s ∈ b.f1, s.size ≤ 9223372036854775807) ∧ (b.f2.length ≤ 9223372036854775807 ∧ ∀ s ∈ b.f2, s.size ≤ 9223372036854775807)
theorem left_neg {n : Nat} {a : Int} (h : left n a < 0) : ¬ (n : Int) ≤ a := by unfold left at h; intro h2; rw [if_pos h2] at h; omega
theorem left_pos {n : Nat} {a : Int} (h : ¬ left n a < 0) : (n : Int) ≤ a ∧ left n a = a - n := by
  unfold left at h ⊢
  by_cases h2 : (n : Int) ≤ a
  · exact ⟨h2, if_pos h2⟩
  · rw [if_neg h2] at h; omega
theorem szShareBatch_ev (b : LB) (a : Int) (hb : LBok b) (h0 : 0 ≤ a) (h1 : a ≤ 9223372036854775807) : Ev (fun k => laws_szShareBatch.f k b.f0 b.f1 b.f2 a) (left (wL b) a) := by
  obtain ⟨z0, ⟨z1, z2⟩, z3, z4⟩ := hb
  unfold laws_szShareBatch.f
  rw [wrap_sub h1 h0 (by omega) (by omega)]
  refine Ev.prop (fun h => Ev.ret ?_) (fun h => ?_)
  · unfold left wL; rw [if_neg (by omega)]
  · refine Ev.bind (szStringS_ev b.f1 _ z1 z2 (by omega) (by omega)) ?_
    refine Ev.prop (fun h2 => Ev.ret ?_) (fun h2 => ?_)
    · have := left_neg h2; unfold left wL; rw [if_neg (by omega)]
    · obtain ⟨h3, h4⟩ := left_pos h2
      rw [h4]
      refine Ev.bind (szStringS_ev b.f2 _ z3 z4 (by omega) (by omega)) ?_
      refine Ev.prop (fun h5 => Ev.ret ?_) (fun h5 => Ev.ret ?_)
      · have := left_neg h5; unfold left wL; rw [if_neg (by omega)]
      · obtain ⟨h6, h7⟩ := left_pos h5
        rw [h7]; unfold left wL; rw [if_pos (by omega)]; omega
theorem szShareBatchS_go (l : List LB) (hl : l.length ≤ 9223372036854775807) (hs : ∀ s ∈ l, LBok s) : ∀ (d i : Nat) (a : Int), l.length - i = d → i ≤ l.length → 0 ≤ a → a ≤ 9223372036854775807 →
    Ev (fun k => laws_szShareBatchS.l0 k l a (i : Int)) (left (sumL (l.drop i)) a) := by
  intro d
  induction d with
  | zero =>
    intro i a hd hi h0 h1
    refine Ev.step (fun k => laws_szShareBatchS.l0.eq_2 l a _ k) ?_
    refine Ev.neg (by omega) (Ev.ret ?_)
    rw [List.drop_eq_nil_of_le (by omega)]
    simp [sumL, left, h0]
  | succ d ih =>
    intro i a hd hi h0 h1
    have hlt : i < l.length := by omega
    refine Ev.step (fun k => laws_szShareBatchS.l0.eq_2 l a _ k) ?_
    refine Ev.pos (by omega) (Ev.pos (by omega) ?_)
    rw [rdL_cast, show gL l i = l[i] from getD_lt l _ hlt, wrap_up hlt hl]
    have hsum : sumL (l.drop i) = wL l[i] + sumL (l.drop (i + 1)) := by rw [List.drop_eq_getElem_cons hlt]; simp only [sumL, List.map_cons, List.sum_cons]
    rw [hsum]
    refine Ev.bind (szShareBatch_ev l[i] a (hs _ (List.getElem_mem hlt)) h0 h1) ?_
    refine Ev.prop (fun h => Ev.ret ?_) (fun h => ?_)
    · have := left_neg h; unfold left; rw [if_neg (by omega)]
    · obtain ⟨h2, h3⟩ := left_pos h
      rw [h3]
      refine Ev.sub (ih (i + 1) (a - wL l[i]) (by omega) (by omega) (by omega) (by omega)) ?_
      unfold left
      by_cases h4 : (((wL l[i] + sumL (l.drop (i + 1)) : Nat)) : Int) ≤ a
      · rw [if_pos h4, if_pos (by omega)]; omega
      · rw [if_neg h4, if_neg (by omega)]
theorem szShareBatchS_ev (l : List LB) (a : Int) (hl : l.length ≤ 9223372036854775807) (hs : ∀ s ∈ l, LBok s) (h0 : 0 ≤ a) (h1 : a ≤ 9223372036854775807) : Ev (fun k => laws_szShareBatchS.f k l a) (left (l.length + sumL l) a) := by
  unfold laws_szShareBatchS.f
  rw [wrap_sub h1 h0 (by omega) (by omega)]
  refine Ev.prop (fun h => Ev.ret ?_) (fun h => ?_)
  · unfold left; rw [if_neg (by omega)]
  · refine Ev.sub (szShareBatchS_go l hl hs l.length 0 (a - l.length) (by omega) (by omega) (by omega) (by omega)) ?_
    rw [List.drop_zero]
    unfold left
    by_cases h2 : (((l.length + sumL l : Nat)) : Int) ≤ a
    · rw [if_pos h2, if_pos (by omega)]; omega
    · rw [if_neg h2, if_neg (by omega)]
def Inok (ts : List ByteArray) (bs : List LB) : Prop := (ts.length ≤ 9223372036854775807 ∧ ∀ s ∈ ts, s.size ≤ 9223372036854775807) ∧ bs.length ≤ 9223372036854775807 ∧ ∀ b ∈ bs, LBok b
theorem szShareBook_ev (ts : List ByteArray) (bs : List LB) (a : Int) (hi : Inok ts bs) (h0 : 0 ≤ a) (h1 : a ≤ 9223372036854775807) : Ev (fun k => laws_szShareBook.f k ts bs a) (left (wBook ts bs) a) := by
  obtain ⟨⟨z1, z2⟩, z3, z4⟩ := hi
  unfold laws_szShareBook.f
  refine Ev.bind (szStringS_ev ts a z1 z2 h0 h1) ?_
  refine Ev.prop (fun h2 => Ev.ret ?_) (fun h2 => ?_)
  · have := left_neg h2; unfold left wBook; rw [if_neg (by omega)]
  · obtain ⟨h3, h4⟩ := left_pos h2
    rw [h4]
    refine Ev.bind (szShareBatchS_ev bs _ z3 z4 (by omega) (by omega)) ?_
    refine Ev.prop (fun h5 => Ev.ret ?_) (fun h5 => Ev.ret ?_)
    · have := left_neg h5; unfold left wBook; rw [if_neg (by omega)]
    · obtain ⟨h6, h7⟩ := left_pos h5
      rw [h7]; unfold left wBook; rw [if_pos (by omega)]; omega
theorem set_take {α : Type} (x l : List α) (i : Nat) (hi : i < l.length) (hx : x.length = l.length) (h : x.take i = l.take i) : (x.set i l[i]).take (i + 1) = l.take (i + 1) := by
  rw [List.take_succ_eq_append_getElem (by simp; omega), List.take_succ_eq_append_getElem hi, List.getElem_set_self, List.take_set_of_le (Nat.le_refl _), h]
theorem toStringS_ev (l : List ByteArray) (hl : l.length ≤ 17592186044416) : Ev (fun k => laws_toStringS.f k l) l := by
  unfold laws_toStringS.f
  refine Ev.pos (by omega) (Ev.pos (by omega) ?_)
  have go : ∀ (d i : Nat) (x : List ByteArray), l.length - i = d → i ≤ l.length → x.length = l.length → x.take i = l.take i → Ev (fun k => laws_toStringS.l0 k l x (i : Int)) l := by
    intro d
    induction d with
    | zero =>
      intro i x hd hi hx h
      refine Ev.step (fun k => laws_toStringS.l0.eq_2 l x _ k) ?_
      refine Ev.neg (by omega) (Ev.ret ?_)
      rwa [List.take_of_length_le (by omega), List.take_of_length_le (by omega)] at h
    | succ d ih =>
      intro i x hd hi hx h
      have hlt : i < l.length := by omega
      refine Ev.step (fun k => laws_toStringS.l0.eq_2 l x _ k) ?_
      refine Ev.pos (by omega) (Ev.pos (by omega) (Ev.pos (by omega) ?_))
      rw [rdS_cast, show gS l i = l[i] from getD_lt l _ hlt, wrap_up hlt (by omega), Int.toNat_natCast]
      exact ih (i + 1) _ (by omega) (by omega) (by simp [hx]) (set_take x l i hlt hx h)
  exact go l.length 0 _ (by omega) (by omega) (by simp) (by simp)
theorem toShareBatch_ev (b : LB) (h1 : b.f1.length ≤ 17592186044416) (h2 : b.f2.length ≤ 17592186044416) : Ev (fun k => laws_toShareBatch.f k b.f0 b.f1 b.f2) (b.f0, b.f1, b.f2) := by
  unfold laws_toShareBatch.f
  exact Ev.bind (toStringS_ev b.f1 h1) (Ev.bind (toStringS_ev b.f2 h2) (Ev.ret rfl))
theorem toShareBatchS_ev (l : List LB) (hl : l.length ≤ 4398046511104) (hs : ∀ b ∈ l, b.f1.length ≤ 17592186044416 ∧ b.f2.length ≤ 17592186044416) : Ev (fun k => laws_toShareBatchS.f k l) (l.map toB) := by
  unfold laws_toShareBatchS.f
  refine Ev.pos (by omega) (Ev.pos (by omega) ?_)
  have go : ∀ (d i : Nat) (x : List IB), l.length - i = d → i ≤ l.length → x.length = l.length → x.take i = (l.map toB).take i → Ev (fun k => laws_toShareBatchS.l0 k l x (i : Int)) (l.map toB) := by
    intro d
    induction d with
    | zero =>
      intro i x hd hi hx h
      refine Ev.step (fun k => laws_toShareBatchS.l0.eq_2 l x _ k) ?_
      refine Ev.neg (by omega) (Ev.ret ?_)
      rwa [List.take_of_length_le (by omega), List.take_of_length_le (by simp; omega)] at h
    | succ d ih =>
      intro i x hd hi hx h
      have hlt : i < l.length := by omega
      refine Ev.step (fun k => laws_toShareBatchS.l0.eq_2 l x _ k) ?_
      refine Ev.pos (by omega) (Ev.pos (by omega) ?_)
      rw [rdL_cast, show gL l i = l[i] from getD_lt l _ hlt, wrap_up hlt (by omega), Int.toNat_natCast]
      refine Ev.bind (toShareBatch_ev l[i] (hs _ (List.getElem_mem hlt)).1 (hs _ (List.getElem_mem hlt)).2) ?_
      refine Ev.pos (by omega) ?_
      refine ih (i + 1) _ (by omega) (by omega) (by simp [hx]) ?_
      have := set_take x (l.map toB) i (by simpa using hlt) (by simpa using hx) h
      rwa [List.getElem_map] at this
  exact go l.length 0 _ (by omega) (by omega) (by simp) (by simp)
theorem toShareBook_ev (ts : List ByteArray) (bs : List LB) (h1 : ts.length ≤ 17592186044416) (h2 : bs.length ≤ 4398046511104) (h3 : ∀ b ∈ bs, b.f1.length ≤ 17592186044416 ∧ b.f2.length ≤ 17592186044416) : Ev (fun k => laws_toShareBook.f k ts bs) (ts, bs.map toB) := by
  unfold laws_toShareBook.f
  exact Ev.bind (toStringS_ev ts h1) (Ev.bind (toShareBatchS_ev bs h2 h3) (Ev.ret rfl))
theorem eqStringS_ev (l : List ByteArray) (hl : l.length ≤ 9223372036854775807) : Ev (fun k => laws_eqStringS.f k l l) true := by
  unfold laws_eqStringS.f
  refine Ev.pos rfl ?_
  exact Ev.loop (f := fun k i => laws_eqStringS.l0 k l l (i : Int)) (val := fun _ => true) l.length
    (by refine Ev.step (fun k => laws_eqStringS.l0.eq_2 l l _ k) ?_
        exact Ev.neg (by omega) (Ev.ret rfl))
    (fun i hi H => by
      refine Ev.step (fun k => laws_eqStringS.l0.eq_2 l l _ k) ?_
      refine Ev.pos (by omega) (Ev.pos (by omega) (Ev.pos (by omega) (Ev.pos rfl ?_)))
      rw [wrap_up hi hl]
      exact H) 0 (by omega)
theorem eqShareBatch_ev (b : IB) (h1 : b.f1.length ≤ 9223372036854775807) (h2 : b.f2.length ≤ 9223372036854775807) : Ev (fun k => laws_eqShareBatch.f k b.f0 b.f1 b.f2 b.f0 b.f1 b.f2) true := by
  unfold laws_eqShareBatch.f
  refine Ev.pos rfl (Ev.bind (eqStringS_ev _ h1) (Ev.pos rfl (Ev.bind (eqStringS_ev _ h2) (Ev.pos rfl (Ev.ret rfl)))))
theorem eqShareBatchS_ev (l : List IB) (hl : l.length ≤ 9223372036854775807) (hs : ∀ b ∈ l, b.f1.length ≤ 9223372036854775807 ∧ b.f2.length ≤ 9223372036854775807) : Ev (fun k => laws_eqShareBatchS.f k l l) true := by
  unfold laws_eqShareBatchS.f
  refine Ev.pos rfl ?_
  exact Ev.loop (f := fun k i => laws_eqShareBatchS.l0 k l l (i : Int)) (val := fun _ => true) l.length
    (by refine Ev.step (fun k => laws_eqShareBatchS.l0.eq_2 l l _ k) ?_
        exact Ev.neg (by omega) (Ev.ret rfl))
    (fun i hi H => by
      refine Ev.step (fun k => laws_eqShareBatchS.l0.eq_2 l l _ k) ?_
      refine Ev.pos (by omega) (Ev.pos (by omega) (Ev.pos (by omega) ?_))
      rw [rdB_cast, show gB l i = l[i] from getD_lt l _ hi, wrap_up hi hl]
      exact Ev.bind (eqShareBatch_ev l[i] (hs _ (List.getElem_mem hi)).1 (hs _ (List.getElem_mem hi)).2) (Ev.pos rfl H)) 0 (by omega)
theorem eqShareBook_ev (ts : List ByteArray) (bs : List IB) (h1 : ts.length ≤ 9223372036854775807) (h2 : bs.length ≤ 9223372036854775807) (h3 : ∀ b ∈ bs, b.f1.length ≤ 9223372036854775807 ∧ b.f2.length ≤ 9223372036854775807) : Ev (fun k => laws_eqShareBook.f k ts bs ts bs) true := by
  unfold laws_eqShareBook.f
  exact Ev.bind (eqStringS_ev ts h1) (Ev.pos rfl (Ev.bind (eqShareBatchS_ev bs h2 h3) (Ev.pos rfl (Ev.ret rfl))))
end Go.Proofs.Ytaofjgnhapnndaa.Q
namespace Go.Proofs.Ytaofjgnhapnndaa.Q
open Go.RowKit Go.Proofs.YtaofjgnhapnndaaW.PrintWords Go.Proofs.YtaofjgnhapnndaaW.PrintLast Go.Proofs.YtaofjgnhapnndaaW.PrintMore
set_option linter.unusedVariables false
set_option linter.unusedSimpArgs false
def Bok (bs : List IB) : Prop := ∀ b ∈ bs, b.f1.length ≤ 9223372036854775807 ∧ b.f2.length ≤ 9223372036854775807
theorem Bok.at_ {bs : List IB} (h : Bok bs) {i : Nat} (hi : i < bs.length) : (gB bs i).f1.length ≤ 9223372036854775807 ∧ (gB bs i).f2.length ≤ 9223372036854775807 := by
  rw [show gB bs i = bs[i] from getD_lt bs _ hi]; exact h _ (List.getElem_mem hi)
def batchP (ts : List ByteArray) (bs : List IB) (i : Nat) : Bool :=
  nameB (gB bs i).f0 && ((decide (i = 0) || ltB (gB bs (i - 1)).f0 (gB bs i).f0) && (namesB (gB bs i).f2 ts && namesB (gB bs i).f1 (gB bs i).f2))
def freeP (bs : List IB) (i : Nat) : Bool := allR (fun q => !shareB (gB bs i).f1 (gB bs q).f1) i 0
def bookB (ts : List ByteArray) (bs : List IB) : Bool := thingsB ts && (decide (bs.length ≤ 5) && allR (fun i => batchP ts bs i && freeP bs i) bs.length 0)
theorem aheadB_ev {α : Type} {bs : List IB} {i : Nat} (hi : i < bs.length) (hl : bs.length ≤ 9223372036854775807) {a b : Nat → Option α} {r s : α} (H1 : Ev a r) (H2 : Ev b s) :
    Ev (fun k => if (i : Int) > 0 then (if 0 ≤ (wrap64 ((i : Int) - 1)) then (if (wrap64 ((i : Int) - 1)) < (bs.length : Int) then (if ((Op.bytesLess (((rd_T56 bs (wrap64 ((i : Int) - 1))).f0).toList) (((rd_T56 bs (i : Int)).f0).toList)) = true) then a k else b k) else none) else none) else a k)
      (if (decide (i = 0) || ltB (gB bs (i - 1)).f0 (gB bs i).f0) = true then r else s) := by
  by_cases h0 : i = 0
  · rw [if_pos (by simp [h0])]; exact Ev.neg (by omega) H1
  · rw [wrap_down (by omega) (by omega), rdB_cast, rdB_cast, show (decide (i = 0) || ltB (gB bs (i - 1)).f0 (gB bs i).f0) = ltB (gB bs (i - 1)).f0 (gB bs i).f0 from by simp [h0]]
    refine Ev.pos (by omega) (Ev.pos (by omega) (Ev.pos (by omega) (Ev.test _ (fun h => ?_) (fun h => ?_))))
    · rw [if_pos (show ltB (gB bs (i - 1)).f0 (gB bs i).f0 = true from h)]; exact H1
    · rw [if_neg (by rw [show ltB (gB bs (i - 1)).f0 (gB bs i).f0 = false from h]; simp)]; exact H2
theorem spec_ShareBookOk_ev (ts : List ByteArray) (bs : List IB) (ht : ts.length ≤ 9223372036854775807) (hl : bs.length ≤ 9223372036854775807) (hb : Bok bs) : Ev (fun k => spec_ShareBookOk.f k ts bs) (bookB ts bs) := by
  unfold spec_ShareBookOk.f bookB
  have loop : Ev (fun k => spec_ShareBookOk.l0 k ((0 : Nat) : Int) ts bs) (allR (fun i => batchP ts bs i && freeP bs i) bs.length 0) := by
    refine Ev.loop (f := fun k i => spec_ShareBookOk.l0 k (i : Int) ts bs) (val := allR (fun i => batchP ts bs i && freeP bs i) bs.length) bs.length ?_ ?_ 0 (by omega)
    · rw [allR_end]
      refine Ev.step (fun k => spec_ShareBookOk.l0.eq_2 _ ts bs k) ?_
      exact Ev.neg (by omega) (Ev.ret rfl)
    · intro i hi H
      rw [allR_step _ hi]
      generalize allR (fun i => batchP ts bs i && freeP bs i) bs.length (i + 1) = r at H
      obtain ⟨b1, b2⟩ := hb.at_ hi
      have inner : Ev (fun k => spec_ShareBookOk.l1 k (i : Int) ((0 : Nat) : Int) ts bs (gB bs i).f0 (gB bs i).f1 (gB bs i).f2) (freeP bs i && r) := by
        refine Ev.loop (f := fun k j => spec_ShareBookOk.l1 k (i : Int) (j : Int) ts bs (gB bs i).f0 (gB bs i).f1 (gB bs i).f2) (val := fun j => allR (fun q => !shareB (gB bs i).f1 (gB bs q).f1) i j && r) i ?_ ?_ 0 (by omega)
        · simp only [allR_end, Bool.true_and]
          refine Ev.step (fun k => spec_ShareBookOk.l1.eq_2 _ _ ts bs _ _ _ k) ?_
          refine Ev.neg (by omega) ?_
          rw [wrap_up hi hl]; exact H
        · intro j hj H2
          simp only [allR_step (fun q => !shareB (gB bs i).f1 (gB bs q).f1) hj]
          refine Ev.step (fun k => spec_ShareBookOk.l1.eq_2 _ _ ts bs _ _ _ k) ?_
          refine Ev.pos (by omega) (Ev.pos (by omega) (Ev.pos (by omega) ?_))
          rw [rdB_cast, wrap_up hj (by omega)]
          refine Ev.bind (spec_l1Share_ev _ _ b1 (hb.at_ (show j < bs.length by omega)).1) ?_
          refine Ev.test _ (fun h => Ev.ret (by rw [h]; rfl)) (fun h => Ev.sub H2 (by rw [h]; rfl))
      have j2 : ∀ b, Ev (fun k => spec_ShareBookOk.j2 k (i : Int) b ts bs (gB bs i).f0 (gB bs i).f1 (gB bs i).f2) (!b && (freeP bs i && r)) := by
        intro b
        refine Ev.step (fun k => spec_ShareBookOk.j2.eq_2 _ _ ts bs _ _ _ k) ?_
        refine Ev.test _ (fun h => Ev.ret (by rw [h]; rfl)) (fun h => Ev.sub inner (by rw [h]; rfl))
      have X : Ev (fun k => (spec_l1NamesOk.f k (gB bs i).f2 ts).bind fun t => if t = true then ((spec_l1NamesOk.f k (gB bs i).f1 (gB bs i).f2).bind fun t2 => spec_ShareBookOk.j2 k (i : Int) (!t2) ts bs (gB bs i).f0 (gB bs i).f1 (gB bs i).f2) else spec_ShareBookOk.j2 k (i : Int) true ts bs (gB bs i).f0 (gB bs i).f1 (gB bs i).f2)
          (namesB (gB bs i).f2 ts && namesB (gB bs i).f1 (gB bs i).f2 && (freeP bs i && r)) := by
        refine Ev.bind (spec_l1NamesOk_ev _ _ b2 ht) ?_
        refine Ev.test _ (fun h => Ev.bind (spec_l1NamesOk_ev _ _ b1 b2) (Ev.sub (j2 _) (by rw [h]; simp))) (fun h => Ev.sub (j2 _) (by rw [h]; simp))
      refine Ev.step (fun k => spec_ShareBookOk.l0.eq_2 _ ts bs k) ?_
      refine Ev.pos (by omega) (Ev.pos (by omega) (Ev.bind (spec_l1NameOk_ev _) ?_))
      have A := aheadB_ev hi hl X (j2 true)
      rw [rdB_cast] at *
      refine Ev.test _ (fun h => Ev.sub A ?_) (fun h => Ev.sub (j2 true) ?_)
      · simp only [batchP, h, Bool.true_and]
        cases (decide (i = 0) || ltB (gB bs (i - 1)).f0 (gB bs i).f0) <;> simp [Bool.and_assoc]
      · simp [batchP, h]
  have j0 : ∀ b, Ev (fun k => spec_ShareBookOk.j0 k b ts bs) (!b && allR (fun i => batchP ts bs i && freeP bs i) bs.length 0) := by
    intro b
    refine Ev.step (fun k => spec_ShareBookOk.j0.eq_2 _ ts bs k) ?_
    refine Ev.test _ (fun h => Ev.ret (by rw [h]; rfl)) (fun h => Ev.sub loop (by rw [h]; rfl))
  refine Ev.bind (spec_l1ThingsOk_ev ts) ?_
  refine Ev.test _ (fun h => Ev.sub (j0 _) ?_) (fun h => Ev.sub (j0 _) (by rw [h]; simp))
  rw [h, show (!decide ((bs.length : Int) > 5)) = decide (bs.length ≤ 5) from by rw [Bool.eq_iff_iff]; simp; omega]
  rfl
theorem things_all (ts : List ByteArray) : (decide (ts.length ≤ 8) && (namesB ts ts && !(ts.any fun s => !nameB s))) = thingsB ts := by
  unfold thingsB
  congr 1
  rw [Bool.eq_iff_iff, Bool.and_eq_true, namesB, allR_iff, allR_iff]
  have hany : ((!(ts.any fun s => !nameB s)) = true) ↔ ∀ s ∈ ts, nameB s = true := by simp
  rw [hany]
  constructor
  · rintro ⟨h1, h2⟩ j h0 hj
    have := h1 j h0 hj
    simp only [namesP, Bool.and_eq_true] at this
    simp only [thingsP, Bool.and_eq_true]
    exact ⟨h2 _ (by rw [show gS ts j = ts[j] from getD_lt ts _ hj]; exact List.getElem_mem hj), this.2⟩
  · intro h
    refine ⟨fun j h0 hj => ?_, fun s hs => ?_⟩
    · have := h j h0 hj
      simp only [thingsP, Bool.and_eq_true] at this
      simp only [namesP, Bool.and_eq_true]
      refine ⟨?_, this.2⟩
      unfold hasS
      rw [List.any_eq_true]
      exact ⟨gS ts j, by rw [show gS ts j = ts[j] from getD_lt ts _ hj]; exact List.getElem_mem hj, by simp⟩
    · obtain ⟨j, hj, rfl⟩ := List.getElem_of_mem hs
      have := h j (by omega) hj
      simp only [thingsP, Bool.and_eq_true] at this
      rw [← show gS ts j = ts[j] from getD_lt ts _ hj]
      exact this.1
theorem impl_ShareBookOk_ev (ts : List ByteArray) (bs : List IB) (ht : ts.length ≤ 9223372036854775807) (hl : bs.length ≤ 9223372036854775807) (hb : Bok bs) : Ev (fun k => impl_ShareBookOk.f k ts bs) (bookB ts bs) := by
  unfold impl_ShareBookOk.f bookB
  have loop : Ev (fun k => impl_ShareBookOk.l0 k bs (bs.length : Int) ((0 : Nat) : Int) ts bs) (allR (fun i => batchP ts bs i && freeP bs i) bs.length 0) := by
    refine Ev.loop (f := fun k i => impl_ShareBookOk.l0 k bs (bs.length : Int) (i : Int) ts bs) (val := allR (fun i => batchP ts bs i && freeP bs i) bs.length) bs.length ?_ ?_ 0 (by omega)
    · rw [allR_end]
      refine Ev.step (fun k => impl_ShareBookOk.l0.eq_2 bs _ _ ts bs k) ?_
      exact Ev.neg (by omega) (Ev.ret rfl)
    · intro i hi H
      rw [allR_step _ hi]
      generalize allR (fun i => batchP ts bs i && freeP bs i) bs.length (i + 1) = r at H
      obtain ⟨b1, b2⟩ := hb.at_ hi
      have inner : Ev (fun k => impl_ShareBookOk.l1 k bs (bs.length : Int) (i : Int) (bs.take i) ((bs.take i).length : Int) ((0 : Nat) : Int) ts bs (gB bs i).f0 (gB bs i).f1 (gB bs i).f2) (freeP bs i && r) := by
        have hlen : (bs.take i).length = i := by rw [List.length_take]; omega
        refine Ev.loop (f := fun k j => impl_ShareBookOk.l1 k bs (bs.length : Int) (i : Int) (bs.take i) ((bs.take i).length : Int) (j : Int) ts bs (gB bs i).f0 (gB bs i).f1 (gB bs i).f2) (val := fun j => allR (fun q => !shareB (gB bs i).f1 (gB bs q).f1) i j && r) i ?_ ?_ 0 (by omega)
        · simp only [allR_end, Bool.true_and]
          refine Ev.step (fun k => impl_ShareBookOk.l1.eq_2 _ _ _ _ _ _ ts bs _ _ _ k) ?_
          refine Ev.neg (by rw [hlen]; omega) ?_
          rw [wrap_up hi hl]; exact H
        · intro j hj H2
          simp only [allR_step (fun q => !shareB (gB bs i).f1 (gB bs q).f1) hj]
          refine Ev.step (fun k => impl_ShareBookOk.l1.eq_2 _ _ _ _ _ _ ts bs _ _ _ k) ?_
          refine Ev.pos (by rw [hlen]; omega) (Ev.pos (by omega) (Ev.pos (by rw [hlen]; omega) ?_))
          rw [rdB_cast, wrap_up hj (by omega), show gB (bs.take i) j = gB bs j from by unfold gB; rw [List.getD_eq_getElem?_getD, List.getElem?_take_of_lt hj, List.getD_eq_getElem?_getD]]
          simp only [impl_common.f, Option.bind_some]
          refine Ev.test _ (fun h => Ev.ret (by rw [show shareB (gB bs i).f1 (gB bs j).f1 = true from h]; rfl)) (fun h => Ev.sub H2 (by rw [show shareB (gB bs i).f1 (gB bs j).f1 = false from h]; rfl))
      have j2 : ∀ b, Ev (fun k => impl_ShareBookOk.j2 k (i : Int) bs (bs.length : Int) (i : Int) b ts bs (gB bs i).f0 (gB bs i).f1 (gB bs i).f2) (!b && (freeP bs i && r)) := by
        intro b
        refine Ev.step (fun k => impl_ShareBookOk.j2.eq_2 _ _ _ _ _ ts bs _ _ _ k) ?_
        refine Ev.test _ (fun h => Ev.ret (by rw [h]; rfl)) (fun h => Ev.pos (by omega) (Ev.pos (by omega) ?_))
        rw [Int.toNat_natCast]
        simp only [Option.bind_some]
        exact Ev.sub inner (by rw [h]; rfl)
      have X : Ev (fun k => (impl_of.f k (gB bs i).f2 ts).bind fun t => if t = true then ((impl_of.f k (gB bs i).f1 (gB bs i).f2).bind fun t2 => impl_ShareBookOk.j2 k (i : Int) bs (bs.length : Int) (i : Int) (!t2) ts bs (gB bs i).f0 (gB bs i).f1 (gB bs i).f2) else impl_ShareBookOk.j2 k (i : Int) bs (bs.length : Int) (i : Int) true ts bs (gB bs i).f0 (gB bs i).f1 (gB bs i).f2)
          (namesB (gB bs i).f2 ts && namesB (gB bs i).f1 (gB bs i).f2 && (freeP bs i && r)) := by
        refine Ev.bind (impl_of_ev _ _ b2 ht) ?_
        refine Ev.test _ (fun h => Ev.bind (impl_of_ev _ _ b1 b2) (Ev.sub (j2 _) (by rw [h]; simp))) (fun h => Ev.sub (j2 _) (by rw [h]; simp))
      refine Ev.step (fun k => impl_ShareBookOk.l0.eq_2 _ _ _ ts bs k) ?_
      refine Ev.pos (by omega) (Ev.pos (by omega) (Ev.pos (by omega) (Ev.bind (name_ev _) ?_)))
      have A := aheadB_ev hi hl X (j2 true)
      rw [rdB_cast] at *
      refine Ev.test _ (fun h => Ev.sub A ?_) (fun h => Ev.sub (j2 true) ?_)
      · simp only [batchP, h, Bool.true_and]
        cases (decide (i = 0) || ltB (gB bs (i - 1)).f0 (gB bs i).f0) <;> simp [Bool.and_assoc]
      · simp [batchP, h]
  have j0 : ∀ b, Ev (fun k => impl_ShareBookOk.j0 k b ts bs) (!b && allR (fun i => batchP ts bs i && freeP bs i) bs.length 0) := by
    intro b
    refine Ev.step (fun k => impl_ShareBookOk.j0.eq_2 _ ts bs k) ?_
    refine Ev.test _ (fun h => Ev.ret (by rw [h]; rfl)) (fun h => Ev.sub loop (by rw [h]; rfl))
  rw [← things_all]
  refine Ev.prop (fun h => Ev.sub (j0 _) ?_) (fun h => Ev.prop (fun h2 => Ev.sub (j0 _) ?_) (fun h2 => Ev.bind (impl_of_ev ts ts ht ht) ?_))
  · rw [show decide (ts.length ≤ 8) = false from decide_eq_false (by omega)]; rfl
  · rw [show decide (bs.length ≤ 5) = false from decide_eq_false (by omega)]; simp
  · rw [show decide (bs.length ≤ 5) = true from decide_eq_true (by omega), show decide (ts.length ≤ 8) = true from decide_eq_true (by omega)]
    simp only [slices_ContainsFunc_string_string.f, Option.bind_some]
    refine Ev.test _ (fun h => Ev.sub (j0 _) (by rw [h]; simp)) (fun h => Ev.sub (j0 _) (by rw [h]; simp))
end Go.Proofs.Ytaofjgnhapnndaa.Q
namespace Go.Proofs.Ytaofjgnhapnndaa.Q
open Go.RowKit Go.Proofs.YtaofjgnhapnndaaW.PrintWords Go.Proofs.YtaofjgnhapnndaaW.PrintLast Go.Proofs.YtaofjgnhapnndaaW.PrintMore
set_option linter.unusedVariables false
set_option linter.unusedSimpArgs false
def findR (P : Nat → Bool) (n i : Nat) : Option Nat := (List.range' i (n - i)).find? P
theorem findR_end (P : Nat → Bool) (n : Nat) : findR P n n = none := by simp [findR]
theorem findR_step (P : Nat → Bool) {n i : Nat} (h : i < n) : findR P n i = if P i = true then some i else findR P n (i + 1) := by
  unfold findR; rw [show n - i = (n - (i + 1)) + 1 by omega, List.range'_succ, List.find?_cons]
  cases P i <;> rfl
theorem book_five {ts : List ByteArray} {bs : List IB} (h : bookB ts bs = true) : bs.length ≤ 5 := by
  unfold bookB at h; simp only [Bool.and_eq_true, decide_eq_true_eq] at h; exact h.2.1
end Go.Proofs.Ytaofjgnhapnndaa.Q
namespace Go.Proofs.Ytaofjgnhapnndaa.Q
open Go.RowKit Go.Proofs.YtaofjgnhapnndaaW.PrintWords Go.Proofs.YtaofjgnhapnndaaW.PrintLast Go.Proofs.YtaofjgnhapnndaaW.PrintMore
set_option linter.unusedVariables false
set_option linter.unusedSimpArgs false
def idxI (p : ByteArray → Bool) (l : List IB) (i : Nat) : Int := ((findR (fun i => p (gB l i).f0) l.length i).map fun (i : Nat) => (i : Int)).getD (-1)
theorem idxI_end (p : ByteArray → Bool) (l : List IB) : idxI p l l.length = -1 := by unfold idxI; rw [findR_end]; rfl
theorem idxI_step (p : ByteArray → Bool) {l : List IB} {i : Nat} (h : i < l.length) : idxI p l i = if p (gB l i).f0 = true then (i : Int) else idxI p l (i + 1) := by
 unfold idxI; rw [findR_step _ h]; cases p (gB l i).f0 <;> rfl
def PredB (g : Nat) (lb : Array Value) (p : ByteArray → Bool) (w : World) : Prop :=
 ∀ (W : World) (s : ByteArray) (A1 : Option Addr) (n1 c1 : Nat) (A2 : Option Addr) (n2 c2 : Nat), Below w.heap.size w W → Calls Try.prog g (#[.agg #[.string s, .slice A1 n1 c1, .slice A2 n2 c2]] ++ lb) W fun e w' => e = .returned (.bool (p s)) ∧ Below w.heap.size w w'
set_option maxHeartbeats 2000000 in
theorem indexFuncB_any (g : Nat) (lb : Array Value) (eg : ∀ args w, (callFunc g args).run Try.prog w = .ok (.enter g args) w) (p : ByteArray → Bool) (A0 : Option Addr) (c0 : Nat) (l0 : List IB) (w : World)
  (hr0 : Kd.C k56 w A0 l0.length l0) (hp : PredB g lb p w) :
  Calls Try.prog 117 #[.slice A0 l0.length c0, .func (.func g) #[] lb] w fun e w' => e = .returned (.int .i64 (idxI p l0 0)) ∧ Below w.heap.size w w' := by
 have hbig := C_len hr0
 have HR0 := Aside0.mk hr0
 clear hr0
 have HP := Aside0.mk hp
 clear hp
 have hu := Try.underlying56
 go_enter Try.func117, Try.ntmps117
 go_wp2
 go_loopg [5, 8] l0.length (fun gg _ s8 wr => ∃ kk : Nat, kk ≤ l0.length ∧ l0.length - kk ≤ gg ∧ s8 = .int .i64 kk ∧ Aside0 (Below w.heap.size w wr) ∧ Aside0 (idxI p l0 0 = idxI p l0 kk))
 case atStart => exact ⟨0, Nat.zero_le _, by omega, rfl, ⟨Below.refl _ w⟩, ⟨rfl⟩⟩
 case round =>
  obtain ⟨kk, hkk, hg, rfl, BW, A⟩ := hrel
  by_cases hlt : kk < l0.length
  ·have hltz : (kk : Int) < (l0.length : Int) := by omega
   have e1 := A.out
   rw [idxI_step p hlt] at e1
   have E1 := Aside0.mk e1
   clear e1
   obtain ⟨ad, A1, c1, A2, c2, rfl, hx0, hx1, hx2, _, _, _, _⟩ := at_T56 HR0.1 (kk : Int) (by omega) (by omega)
   have hcall := HP.out wr (gB l0 kk).f0 A1 (rd_T56 l0 (kk : Int)).f1.length c1 A2 (rd_T56 l0 (kk : Int)).f2.length c2 BW.out
   rw [← rdB_cast] at hcall E1
   rw [Int.toNat_natCast] at hx0 hx1 hx2
   replace hx0 := (BW.out.cell (World.block_lt_of_cell? w _ hx0)).trans hx0
   replace hx1 := (BW.out.cell (World.block_lt_of_cell? w _ hx1)).trans hx1
   replace hx2 := (BW.out.cell (World.block_lt_of_cell? w _ hx2)).trans hx2
   generalize rd_T56 l0 (kk : Int) = y at hx0 hx1 hx2 hcall E1
   obtain ⟨y0, y1, y2⟩ := y
   cases hq : p y0 with
   | true =>
    rw [hq] at hcall
    have E2 : Aside0 (idxI p l0 0 = kk) := ⟨by rw [E1.out, if_pos hq]⟩
    clear hq
    go_wp2_with (go_at_fn g; refine hcall.mono ?_; rintro e w' ⟨rfl, hb'⟩)
    go_ret
    exact ⟨by rw [E2.out]; rfl, hb'⟩
   | false =>
    rw [hq] at hcall
    have E2 : Aside0 (idxI p l0 0 = idxI p l0 (kk + 1)) := ⟨by rw [E1.out, if_neg (by simp [hq])]⟩
    clear hq
    go_wp2_with (go_at_fn g; refine hcall.mono ?_; rintro e w' ⟨rfl, hb'⟩)
    go_roundg (l0.length - (kk + 1))
    case measure => omega
    case rel => exact ⟨kk + 1, by omega, by omega, by go_num, ⟨hb'⟩, E2⟩
  ·have hltz : ¬ (kk : Int) < (l0.length : Int) := by omega
   have hk2 : kk = l0.length := by omega
   have E2 : Aside0 (idxI p l0 0 = -1) := ⟨by rw [A.out, hk2, idxI_end]⟩
   subst hk2
   go_wp2
   go_ret
   exact ⟨by rw [E2.out]; rfl, BW.out⟩
theorem at1_any (s n : ByteArray) (A1 : Option Addr) (n1 c1 : Nat) (A2 : Option Addr) (n2 c2 : Nat) (gb : Nat) (W : World) (hg : gb < W.heap.size) (hcell : W.cell? ⟨gb, 0, none⟩ = some (.string n)) :
  Calls Try.prog 118 #[.agg #[.string s, .slice A1 n1 c1, .slice A2 n2 c2], .pointer (some ⟨gb, 0, none⟩)] W fun e w' => e = .returned (.bool (s.toList == n.toList)) ∧ Below W.heap.size W w' := by
 have hu := Try.underlying56
 have hne : gb ≠ W.heap.size := by omega
 go_enter Try.func118, Try.ntmps118
 go_wp2
 go_ret
 exact ⟨rfl, (Below.refl _ _).alloc (Nat.le_refl _) _⟩
def impl_ShareBook_at.f (l0_0 : List ByteArray) (l0_1 : List IB) (a1 : ByteArray) : Option (Int) := some (idxI (fun s => s.toList == a1.toList) l0_1 0)
theorem impl_ShareBook_at.calls (A0_0 : Option Addr) (c0_0 : Nat) (l0_0 : List ByteArray) (A0_1 : Option Addr) (c0_1 : Nat) (l0_1 : List IB) (a1 : ByteArray) (r : Int) (w : World) (hr0_0 : Kd.C Kd.string w A0_0 l0_0.length l0_0) (hc0_0 : l0_0.length ≤ c0_0) (hr0_1 : Kd.C k56 w A0_1 l0_1.length l0_1) (hc0_1 : l0_1.length ≤ c0_1) (h : impl_ShareBook_at.f l0_0 l0_1 a1 = some r) :
  Calls Try.prog 84 #[.agg #[.slice A0_0 l0_0.length c0_0, .slice A0_1 l0_1.length c0_1], .string a1] w fun e w' => e = .returned (.int .i64 r) ∧ Below w.heap.size w w' := by
 obtain rfl := Option.some.inj h
 clear h
 have hu := Try.underlying31
 have HW : Aside0 (Below w.heap.size w ((w.alloc (.cells #[.slice A0_0 l0_0.length c0_0, .slice A0_1 l0_1.length c0_1] 31 (0, 0))).alloc (.cells #[.string a1] 9 (0, 0)))) := ⟨((Below.refl _ _).alloc (Nat.le_refl _) _).alloc (by simp) _⟩
 have HC : Aside0 (Calls Try.prog 117 #[.slice A0_1 l0_1.length c0_1, .func (.func 118) #[] #[.pointer (some ⟨w.heap.size + 1, 0, none⟩)]] ((w.alloc (.cells #[.slice A0_0 l0_0.length c0_0, .slice A0_1 l0_1.length c0_1] 31 (0, 0))).alloc (.cells #[.string a1] 9 (0, 0))) fun e w' => e = .returned (.int .i64 (idxI (fun s => s.toList == a1.toList) l0_1 0)) ∧ Below ((w.alloc (.cells #[.slice A0_0 l0_0.length c0_0, .slice A0_1 l0_1.length c0_1] 31 (0, 0))).alloc (.cells #[.string a1] 9 (0, 0))).heap.size ((w.alloc (.cells #[.slice A0_0 l0_0.length c0_0, .slice A0_1 l0_1.length c0_1] 31 (0, 0))).alloc (.cells #[.string a1] 9 (0, 0))) w') := by
  refine ⟨indexFuncB_any 118 _ (enters_of Try.func118 (by kernel_rfl) rfl) (fun s => s.toList == a1.toList) A0_1 c0_1 l0_1 _ (Kd.C_below hr0_1 HW.out) ?_⟩
  intro W s A1 n1 c1 A2 n2 c2 hb
  have hcell : W.cell? ⟨w.heap.size + 1, 0, none⟩ = some (.string a1) := by
   rw [hb.cell (p := ⟨w.heap.size + 1, 0, none⟩) (by simp)]
   simp
  exact (at1_any s a1 A1 n1 c1 A2 n2 c2 (w.heap.size + 1) W (Nat.lt_of_lt_of_le (by simp) hb.size) hcell).mono fun e w' ⟨he, hd⟩ => ⟨he, below_then hb hb.size hd⟩
 generalize idxI (fun s => s.toList == a1.toList) l0_1 0 = b at HC
 clear hr0_0 hc0_0 hr0_1 hc0_1
 go_enter Try.func84, Try.ntmps84
 go_wp2_with (go_at_call 117; refine HC.out.mono ?_; rintro e w' ⟨rfl, hb'⟩)
 go_ret
 exact ⟨rfl, below_then HW.out HW.out.size hb'⟩
end Go.Proofs.Ytaofjgnhapnndaa.Q
