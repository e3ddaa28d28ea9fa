/- Texts that the row needs: words on memory and rows, the contracts of the functions it reaches, and the plain lemmas on what they compute. -/
import Derived.Shelf.Abstract
import Derived.Test.YtaofjgnhapnndaaXkwae
set_option maxHeartbeats 8000000
set_option maxRecDepth 100000
open Go.Proofs.YtaofjgnhapnndaaFkw
namespace Go.Proofs.Ytaofjgnhapnndaa.Q
open Go.RowKit Go.Proofs.YtaofjgnhapnndaaW.PrintWords Go.Proofs.YtaofjgnhapnndaaW.PrintLast Go.Proofs.YtaofjgnhapnndaaW.PrintMore
set_option linter.unusedVariables false
set_option linter.unusedSimpArgs false
def PredS (g : Nat) (lb : Array Value) (p : ByteArray → Bool) (w : World) : Prop :=
  ∀ (W : World) (s : ByteArray), Below w.heap.size w W → Calls Try.prog g (#[.string s] ++ lb) W fun e w' => e = .returned (.bool (p s)) ∧ Below w.heap.size w w'
theorem C_len {α : Type} {d : Kd α} {w : World} {A : Option Addr} {n : Nat} {xs : List α} (h : d.C w A n xs) : n ≤ 9223372036854775807 := h.2.1
def idxP (p : ByteArray → Bool) : List ByteArray → Nat → Int
  | [], _ => -1
  | x :: xs, i => if p x = true then (i : Int) else idxP p xs (i + 1)
theorem idxP_nonneg (p : ByteArray → Bool) : ∀ (l : List ByteArray) (i : Nat), decide (0 ≤ idxP p l i) = l.any p := by
  intro l
  induction l with
  | nil => intro i; simp [idxP]
  | cons x xs ih =>
    intro i
    unfold idxP
    cases h : p x with
    | true => simp [h]
    | false => simp [h, ih]
set_option maxHeartbeats 2000000 in
theorem indexFunc_any (g : Nat) (lb : Array Value) (eg : ∀ args w, (callFunc g args).run Try.prog w = .ok (.enter g args) w) (p : ByteArray → Bool) (A0 : Option Addr) (c0 : Nat) (l0 : List ByteArray) (w : World)
    (hr0 : Kd.C Kd.string w A0 l0.length l0) (hp : PredS g lb p w) :
    Calls Try.prog 113 #[.slice A0 l0.length c0, .func (.func g) #[] lb] w fun e w' => e = .returned (.int .i64 (idxP p l0 0)) ∧ Below w.heap.size w w' := by
  have hbig := C_len hr0
  have HR0 := Aside0.mk hr0
  clear hr0
  have HP := Aside0.mk hp
  clear hp
  go_enter Try.func113, Try.ntmps113
  go_wp2
  go_loopg [5, 8] l0.length (fun gg _ s8 wr => ∃ kk : Nat, kk ≤ l0.length ∧ l0.length - kk ≤ gg ∧ s8 = .int .i64 kk ∧ Aside0 (Below w.heap.size w wr) ∧ Aside0 (idxP p l0 0 = idxP p (l0.drop kk) kk))
  case atStart => exact ⟨0, Nat.zero_le _, by omega, rfl, ⟨Below.refl _ w⟩, ⟨by rw [List.drop_zero]⟩⟩
  case round =>
    obtain ⟨kk, hkk, hg, rfl, BW, A⟩ := hrel
    by_cases hlt : kk < l0.length
    · have hltz : (kk : Int) < (l0.length : Int) := by omega
      have e1 := A.out
      rw [List.drop_eq_getElem_cons hlt, idxP] at e1
      have E1 := Aside0.mk e1
      clear e1
      obtain ⟨ad, rfl, hx⟩ := Kd.at_string HR0.1 (kk : Int) (by omega) (by omega)
      rw [rdOf_nat _ _ _ hlt, Int.toNat_natCast] at hx
      have hcall := HP.out wr l0[kk] BW.out
      replace hx := (BW.out.cell (World.block_lt_of_cell? w _ hx)).trans hx
      generalize hy : l0[kk] = y at hx hcall E1
      clear hy
      cases hq : p y with
      | true =>
        rw [hq] at hcall
        have E2 : Aside0 (idxP p l0 0 = kk) := ⟨by rw [E1.out, if_pos hq]⟩
        clear hq
        go_wp2_with (go_at_fn g; refine hcall.mono ?_; rintro e w' ⟨rfl, hb'⟩)
        go_ret
        exact ⟨by rw [E2.out]; rfl, hb'⟩
      | false =>
        rw [hq] at hcall
        have E2 : Aside0 (idxP p l0 0 = idxP p (l0.drop (kk + 1)) (kk + 1)) := ⟨by rw [E1.out, if_neg (by simp [hq])]⟩
        clear hq
        go_wp2_with (go_at_fn g; refine hcall.mono ?_; rintro e w' ⟨rfl, hb'⟩)
        go_roundg (l0.length - (kk + 1))
        case measure => omega
        case rel => exact ⟨kk + 1, by omega, by omega, by go_num, ⟨hb'⟩, E2⟩
    · have hltz : ¬ (kk : Int) < (l0.length : Int) := by omega
      have hk2 : kk = l0.length := by omega
      have E2 : Aside0 (idxP p l0 0 = -1) := ⟨by rw [A.out, hk2, List.drop_length]; rfl⟩
      subst hk2
      go_wp2
      go_ret
      exact ⟨by rw [E2.out]; rfl, BW.out⟩
theorem containsFunc_any (g : Nat) (lb : Array Value) (eg : ∀ args w, (callFunc g args).run Try.prog w = .ok (.enter g args) w) (p : ByteArray → Bool) (A0 : Option Addr) (c0 : Nat) (l0 : List ByteArray) (w : World)
    (hr0 : Kd.C Kd.string w A0 l0.length l0) (hp : PredS g lb p w) :
    Calls Try.prog 75 #[.slice A0 l0.length c0, .func (.func g) #[] lb] w fun e w' => e = .returned (.bool (l0.any p)) ∧ Below w.heap.size w w' := by
  have HC := Aside0.mk (indexFunc_any g lb eg p A0 c0 l0 w hr0 hp)
  have HN := Aside0.mk (idxP_nonneg p l0 0)
  clear hr0 hp eg
  generalize idxP p l0 0 = q at HC HN
  go_enter Try.func75, Try.ntmps75
  go_wp2_with (go_at_call 113; refine HC.out.mono ?_; rintro e w' ⟨rfl, hb'⟩)
  go_ret
  exact ⟨by rw [← HN.out]; rfl, hb'⟩
mutual
def impl_name.j0 : Nat → ByteArray → Bool → Option (Bool)
 | 0, _, _ => none
 | k + 1, x0, x12 => if x12 = true then (some false) else (impl_name.l0 k x0 0)
def impl_name.l0 : Nat → ByteArray → Int → Option (Bool)
 | 0, _, _ => none
 | k + 1, x0, x3 => if x3 < (x0.size : Int) then (if 0 ≤ x3 then (if (bt x0 x3) ≥ 97 then (if (bt x0 x3) ≤ 122 then (impl_name.l0 k x0 (wrap64 (x3 + 1))) else (if (bt x0 x3) ≥ 48 then (if (bt x0 x3) ≤ 57 then (impl_name.l0 k x0 (wrap64 (x3 + 1))) else (if ((bt x0 x3) = 45) then (impl_name.l0 k x0 (wrap64 (x3 + 1))) else (some false))) else (if ((bt x0 x3) = 45) then (impl_name.l0 k x0 (wrap64 (x3 + 1))) else (some false)))) else (if (bt x0 x3) ≥ 48 then (if (bt x0 x3) ≤ 57 then (impl_name.l0 k x0 (wrap64 (x3 + 1))) else (if ((bt x0 x3) = 45) then (impl_name.l0 k x0 (wrap64 (x3 + 1))) else (some false))) else (if ((bt x0 x3) = 45) then (impl_name.l0 k x0 (wrap64 (x3 + 1))) else (some false)))) else (none)) else (some true)
end
def impl_name.f (k : Nat) (a0 : ByteArray) : Option (Bool) := if (a0.size : Int) < 1 then (impl_name.j0 k a0 true) else (impl_name.j0 k a0 (decide ((a0.size : Int) > 8)))
theorem impl_name.mono_l : ∀ k, (∀ y0 y1, LeO (impl_name.j0 k y0 y1) (impl_name.j0 (k + 1) y0 y1)) ∧ (∀ y0 y1, LeO (impl_name.l0 k y0 y1) (impl_name.l0 (k + 1) y0 y1))
 | 0 => ⟨fun _ _ r h => by simp [impl_name.j0] at h, fun _ _ r h => by simp [impl_name.l0] at h⟩
 | k + 1 => by
  obtain ⟨ih0, ih1⟩ := impl_name.mono_l k
  refine ⟨?_, ?_⟩
  ·intro y0 y1
   unfold impl_name.j0
   repeat' first
   | (with_reducible exact ih0 _ _)
   | (with_reducible exact ih1 _ _)
   | (with_reducible exact LeO.refl _)
   | (with_reducible exact LeO.none _)
   | (with_reducible refine LeO.ite ?_ ?_)
   | (with_reducible refine LeO.bind ?_ (fun _ => ?_))
   | exact ih0 _ _
   | exact ih1 _ _
   | exact LeO.none _
   | refine LeO.ite ?_ ?_
   | refine LeO.bind ?_ (fun _ => ?_)
  ·intro y0 y1
   unfold impl_name.l0
   repeat' first
   | (with_reducible exact ih0 _ _)
   | (with_reducible exact ih1 _ _)
   | (with_reducible exact LeO.refl _)
   | (with_reducible exact LeO.none _)
   | (with_reducible refine LeO.ite ?_ ?_)
   | (with_reducible refine LeO.bind ?_ (fun _ => ?_))
   | exact ih0 _ _
   | exact ih1 _ _
   | exact LeO.none _
   | refine LeO.ite ?_ ?_
   | refine LeO.bind ?_ (fun _ => ?_)
theorem impl_name.mono : ∀ a0 k, LeO (impl_name.f k a0) (impl_name.f (k + 1) a0) := by
 intro a0 k
 obtain ⟨ih0, ih1⟩ := impl_name.mono_l k
 unfold impl_name.f
 repeat' first
   | (with_reducible exact ih0 _ _)
   | (with_reducible exact ih1 _ _)
   | (with_reducible exact LeO.refl _)
   | (with_reducible exact LeO.none _)
   | (with_reducible refine LeO.ite ?_ ?_)
   | (with_reducible refine LeO.bind ?_ (fun _ => ?_))
   | exact ih0 _ _
   | exact ih1 _ _
   | exact LeO.none _
   | refine LeO.ite ?_ ?_
   | refine LeO.bind ?_ (fun _ => ?_)
theorem impl_name.calls (k : Nat) (a0 : ByteArray) (r : Bool) (w : World) (h : impl_name.f k a0 = some r) :
  Calls Try.prog 77 #[.string a0] w fun e w' => e = .returned (.bool r) ∧ Drawn0 w w' := by
 unfold impl_name.f at h
 have H := h
 clear h
 have HC2 := am H
 clear H
 go_enter Try.func77, Try.ntmps77
 go_upto_region 1 with ((fail))
 go_cut [12] (fun v12 wc => ∃ (kq : Nat) (x12_1 : Bool), v12 = .bool x12_1 ∧ Aside0 (impl_name.j0 kq a0 x12_1 = some r) ∧ Aside0 (kq ≤ k) ∧ Drawn0 w wc)
 case first =>
  have H := HC2.1
  clear HC2
  by_cases c3 : (a0.size : Int) < 1
  ·rw [if_pos c3] at H
   have c3b0 : decide ((a0.size : Int) < 1) = true := decide_eq_true c3
   have c3b1 : decide (a0.size < 1) = true := decide_eq_true (by omega)
   clear c3
   (first | rw [c3b0] | (simp only [i64_w, i32_w]; rw [c3b0]) | skip)
   have H' := am H
   clear H
   go_wp2
   go_meet
   case rel => exact ⟨_, (true), (pY136), H', ⟨by first | omega | exact Nat.le_refl _⟩, pY133⟩
  ·rw [if_neg c3] at H
   have c3b0 : decide ((a0.size : Int) < 1) = false := decide_eq_false c3
   have c3b1 : decide (a0.size < 1) = false := decide_eq_false (by omega)
   clear c3
   (first | rw [c3b0] | (simp only [i64_w, i32_w]; rw [c3b0]) | skip)
   have H' := am H
   clear H
   go_wp2
   go_meet
   case rel => exact ⟨_, (decide ((a0.size : Int) > 8)), (pY136), H', ⟨by first | omega | exact Nat.le_refl _⟩, pY133⟩
 case rest =>
  clear HC2
  obtain ⟨kq, x12_1, rfl, HA, HJ1, ⟨mc1, rfl⟩⟩ := hcut
  cases kq with
  | zero => exact absurd HA.out (by simp [impl_name.j0])
  | succ kj1 =>
   have H := HA.out
   clear HA
   simp only [impl_name.j0] at H
   refine tC H ?_ ?_ <;> clear H <;> intro c4 H <;> subst c4
   ·obtain rfl := Option.some.inj H
    go_wp2
    go_ret
    exact ⟨by first | rfl | (simp; done) | (simp [*]; done), pY133⟩
   ·have H' := am H
    clear H
    go_wp2
    go_loopg [3] kj1 (fun kq v3 w' => ∃ (x3_2 : Int), v3 = .int .i64 x3_2 ∧ Aside0 (impl_name.l0 kq a0 x3_2 = some r) ∧ Aside0 (kq ≤ kj1) ∧ Drawn0 w w')
    case atStart => exact ⟨(0), (pY136), H', ⟨Nat.le_refl _⟩, pY133⟩
    case round =>
     clear H'
     try clear c4
     obtain ⟨x3_2, rfl, HA, HK2, ⟨m2, rfl⟩⟩ := hrel
     cases gk with
     | zero => exact absurd HA.out (by simp [impl_name.l0])
     | succ k2 =>
      have H := HA.out
      clear HA
      simp only [impl_name.l0] at H
      refine ic H ?_ ?_ <;> clear H <;> intro c5b0 H
      ·obtain ⟨c6b0, H⟩ := cN H
       by_cases c8 : (bt a0 x3_2) ≥ 97
       ·rw [if_pos c8] at H
        have c8b0 : decide (97 ≤ (bt a0 x3_2)) = true := decide_eq_true c8
        clear c8
        refine ic H ?_ ?_ <;> clear H <;> intro c9b0 H
        ·have H' := am H
         clear H
         have p7 : 0 ≤ (x3_2 : Int) := oT
         have q7 : x3_2 < (a0.size : Int) := oT
         have hx7 := bt_at a0 x3_2
         replace p7 := eq_true p7
         replace q7 := eq_true q7
         go_wp2
         go_roundg k2
         case measure => have := HJ1.out; have := HK2.out; omega
         case rel => exact ⟨(wrap64 (x3_2 + 1)), (pY136), H', ⟨by have := HJ1.out; have := HK2.out; omega⟩, pY133⟩
        ·by_cases c10 : (bt a0 x3_2) ≥ 48
         ·rw [if_pos c10] at H
          have c10b0 : decide (48 ≤ (bt a0 x3_2)) = true := decide_eq_true c10
          clear c10
          refine ic H ?_ ?_ <;> clear H <;> intro c11b0 H
          ·have H' := am H
           clear H
           have p7 : 0 ≤ (x3_2 : Int) := oT
           have q7 : x3_2 < (a0.size : Int) := oT
           have hx7 := bt_at a0 x3_2
           replace p7 := eq_true p7
           replace q7 := eq_true q7
           go_wp2
           go_roundg k2
           case measure => have := HJ1.out; have := HK2.out; omega
           case rel => exact ⟨(wrap64 (x3_2 + 1)), (pY136), H', ⟨by have := HJ1.out; have := HK2.out; omega⟩, pY133⟩
          ·by_cases c12 : ((bt a0 x3_2) = 45)
           ·rw [if_pos c12] at H
            have c12b0 : ((bt a0 x3_2) == 45) = true := beq_iff_eq.mpr c12
            have c12b1 : ((bt a0 x3_2) != 45) = false := bne_eq_false_iff_eq.mpr c12
            clear c12
            have H' := am H
            clear H
            have p7 : 0 ≤ (x3_2 : Int) := oT
            have q7 : x3_2 < (a0.size : Int) := oT
            have hx7 := bt_at a0 x3_2
            replace p7 := eq_true p7
            replace q7 := eq_true q7
            go_wp2
            go_roundg k2
            case measure => have := HJ1.out; have := HK2.out; omega
            case rel => exact ⟨(wrap64 (x3_2 + 1)), (pY136), H', ⟨by have := HJ1.out; have := HK2.out; omega⟩, pY133⟩
           ·rw [if_neg c12] at H
            have c12b0 : ((bt a0 x3_2) == 45) = false := beq_eq_false_iff_ne.mpr c12
            have c12b1 : ((bt a0 x3_2) != 45) = true := bne_iff_ne.mpr c12
            obtain rfl := Option.some.inj H
            have p7 : 0 ≤ (x3_2 : Int) := oT
            have q7 : x3_2 < (a0.size : Int) := oT
            have hx7 := bt_at a0 x3_2
            replace p7 := eq_true p7
            replace q7 := eq_true q7
            go_wp2
            go_ret
            exact ⟨by first | rfl | (simp; done) | (simp [*]; done), pY133⟩
         ·rw [if_neg c10] at H
          have c10b0 : decide (48 ≤ (bt a0 x3_2)) = false := decide_eq_false c10
          clear c10
          by_cases c13 : ((bt a0 x3_2) = 45)
          ·rw [if_pos c13] at H
           have c13b0 : ((bt a0 x3_2) == 45) = true := beq_iff_eq.mpr c13
           have c13b1 : ((bt a0 x3_2) != 45) = false := bne_eq_false_iff_eq.mpr c13
           clear c13
           have H' := am H
           clear H
           have p7 : 0 ≤ (x3_2 : Int) := oT
           have q7 : x3_2 < (a0.size : Int) := oT
           have hx7 := bt_at a0 x3_2
           replace p7 := eq_true p7
           replace q7 := eq_true q7
           go_wp2
           go_roundg k2
           case measure => have := HJ1.out; have := HK2.out; omega
           case rel => exact ⟨(wrap64 (x3_2 + 1)), (pY136), H', ⟨by have := HJ1.out; have := HK2.out; omega⟩, pY133⟩
          ·rw [if_neg c13] at H
           have c13b0 : ((bt a0 x3_2) == 45) = false := beq_eq_false_iff_ne.mpr c13
           have c13b1 : ((bt a0 x3_2) != 45) = true := bne_iff_ne.mpr c13
           obtain rfl := Option.some.inj H
           have p7 : 0 ≤ (x3_2 : Int) := oT
           have q7 : x3_2 < (a0.size : Int) := oT
           have hx7 := bt_at a0 x3_2
           replace p7 := eq_true p7
           replace q7 := eq_true q7
           go_wp2
           go_ret
           exact ⟨by first | rfl | (simp; done) | (simp [*]; done), pY133⟩
       ·rw [if_neg c8] at H
        have c8b0 : decide (97 ≤ (bt a0 x3_2)) = false := decide_eq_false c8
        clear c8
        by_cases c14 : (bt a0 x3_2) ≥ 48
        ·rw [if_pos c14] at H
         have c14b0 : decide (48 ≤ (bt a0 x3_2)) = true := decide_eq_true c14
         clear c14
         refine ic H ?_ ?_ <;> clear H <;> intro c15b0 H
         ·have H' := am H
          clear H
          have p7 : 0 ≤ (x3_2 : Int) := oT
          have q7 : x3_2 < (a0.size : Int) := oT
          have hx7 := bt_at a0 x3_2
          replace p7 := eq_true p7
          replace q7 := eq_true q7
          go_wp2
          go_roundg k2
          case measure => have := HJ1.out; have := HK2.out; omega
          case rel => exact ⟨(wrap64 (x3_2 + 1)), (pY136), H', ⟨by have := HJ1.out; have := HK2.out; omega⟩, pY133⟩
         ·by_cases c16 : ((bt a0 x3_2) = 45)
          ·rw [if_pos c16] at H
           have c16b0 : ((bt a0 x3_2) == 45) = true := beq_iff_eq.mpr c16
           have c16b1 : ((bt a0 x3_2) != 45) = false := bne_eq_false_iff_eq.mpr c16
           clear c16
           have H' := am H
           clear H
           have p7 : 0 ≤ (x3_2 : Int) := oT
           have q7 : x3_2 < (a0.size : Int) := oT
           have hx7 := bt_at a0 x3_2
           replace p7 := eq_true p7
           replace q7 := eq_true q7
           go_wp2
           go_roundg k2
           case measure => have := HJ1.out; have := HK2.out; omega
           case rel => exact ⟨(wrap64 (x3_2 + 1)), (pY136), H', ⟨by have := HJ1.out; have := HK2.out; omega⟩, pY133⟩
          ·rw [if_neg c16] at H
           have c16b0 : ((bt a0 x3_2) == 45) = false := beq_eq_false_iff_ne.mpr c16
           have c16b1 : ((bt a0 x3_2) != 45) = true := bne_iff_ne.mpr c16
           obtain rfl := Option.some.inj H
           have p7 : 0 ≤ (x3_2 : Int) := oT
           have q7 : x3_2 < (a0.size : Int) := oT
           have hx7 := bt_at a0 x3_2
           replace p7 := eq_true p7
           replace q7 := eq_true q7
           go_wp2
           go_ret
           exact ⟨by first | rfl | (simp; done) | (simp [*]; done), pY133⟩
        ·rw [if_neg c14] at H
         have c14b0 : decide (48 ≤ (bt a0 x3_2)) = false := decide_eq_false c14
         clear c14
         by_cases c17 : ((bt a0 x3_2) = 45)
         ·rw [if_pos c17] at H
          have c17b0 : ((bt a0 x3_2) == 45) = true := beq_iff_eq.mpr c17
          have c17b1 : ((bt a0 x3_2) != 45) = false := bne_eq_false_iff_eq.mpr c17
          clear c17
          have H' := am H
          clear H
          have p7 : 0 ≤ (x3_2 : Int) := oT
          have q7 : x3_2 < (a0.size : Int) := oT
          have hx7 := bt_at a0 x3_2
          replace p7 := eq_true p7
          replace q7 := eq_true q7
          go_wp2
          go_roundg k2
          case measure => have := HJ1.out; have := HK2.out; omega
          case rel => exact ⟨(wrap64 (x3_2 + 1)), (pY136), H', ⟨by have := HJ1.out; have := HK2.out; omega⟩, pY133⟩
         ·rw [if_neg c17] at H
          have c17b0 : ((bt a0 x3_2) == 45) = false := beq_eq_false_iff_ne.mpr c17
          have c17b1 : ((bt a0 x3_2) != 45) = true := bne_iff_ne.mpr c17
          obtain rfl := Option.some.inj H
          have p7 : 0 ≤ (x3_2 : Int) := oT
          have q7 : x3_2 < (a0.size : Int) := oT
          have hx7 := bt_at a0 x3_2
          replace p7 := eq_true p7
          replace q7 := eq_true q7
          go_wp2
          go_ret
          exact ⟨by first | rfl | (simp; done) | (simp [*]; done), pY133⟩
      ·obtain rfl := Option.some.inj H
       go_wp2
       go_ret
       exact ⟨by first | rfl | (simp; done) | (simp [*]; done), pY133⟩
end Go.Proofs.Ytaofjgnhapnndaa.Q
namespace Go.Proofs.Ytaofjgnhapnndaa.Q
open Go.RowKit Go.Proofs.YtaofjgnhapnndaaW.PrintWords Go.Proofs.YtaofjgnhapnndaaW.PrintLast Go.Proofs.YtaofjgnhapnndaaW.PrintMore
set_option linter.unusedVariables false
set_option linter.unusedSimpArgs false
def okc (c : Int) : Bool := (decide (97 ≤ c) && decide (c ≤ 122)) || (decide (48 ≤ c) && decide (c ≤ 57)) || decide (c = 45)
def nameB (s : ByteArray) : Bool := decide (1 ≤ s.size) && decide (s.size ≤ 8) && (List.range' 0 s.size).all fun j => okc (bt s (j : Int))
theorem okc_true {c : Int} (h : okc c = true) : (97 ≤ c ∧ c ≤ 122) ∨ (48 ≤ c ∧ c ≤ 57) ∨ c = 45 := by
  simpa [okc, or_assoc] using h
theorem okc_false {c : Int} (h : okc c = false) : ¬ (97 ≤ c ∧ c ≤ 122) ∧ ¬ (48 ≤ c ∧ c ≤ 57) ∧ ¬ c = 45 := by
  simp only [okc, Bool.or_eq_false_iff, Bool.and_eq_false_iff, decide_eq_false_iff_not] at h
  omega
theorem okc_ite {α : Type} (c : Int) (x y : α) :
    (if c ≥ 97 then (if c ≤ 122 then x else (if c ≥ 48 then (if c ≤ 57 then x else (if c = 45 then x else y)) else (if c = 45 then x else y))) else (if c ≥ 48 then (if c ≤ 57 then x else (if c = 45 then x else y)) else (if c = 45 then x else y))) = if okc c = true then x else y := by
  cases h : okc c with
  | true =>
    rw [if_pos rfl]
    have h := okc_true h
    split
    · split
      · rfl
      · split
        · split
          · rfl
          · rw [if_pos (by omega)]
        · rw [if_pos (by omega)]
    · split
      · split
        · rfl
        · rw [if_pos (by omega)]
      · rw [if_pos (by omega)]
  | false =>
    rw [show (if false = true then x else y) = y from rfl]
    obtain ⟨h1, h2, h3⟩ := okc_false h
    rw [if_neg h3]
    by_cases a : c ≥ 97
    · rw [if_pos a, if_neg (fun b => h1 ⟨a, b⟩)]
      by_cases a2 : c ≥ 48
      · rw [if_pos a2, if_neg (fun b => h2 ⟨a2, b⟩)]
      · rw [if_neg a2]
    · rw [if_neg a]
      by_cases a2 : c ≥ 48
      · rw [if_pos a2, if_neg (fun b => h2 ⟨a2, b⟩)]
      · rw [if_neg a2]
theorem name_go (s : ByteArray) (hs : s.size ≤ 9223372036854775807) : ∀ (d k i : Nat), s.size - i = d → i ≤ s.size → d < k →
    impl_name.l0 k s (i : Int) = some ((List.range' i d).all fun j => okc (bt s (j : Int))) := by
  intro d
  induction d with
  | zero =>
    intro k i hd hi hk
    obtain ⟨k, rfl⟩ : ∃ m, k = m + 1 := ⟨k - 1, by omega⟩
    simp only [impl_name.l0]
    rw [if_neg (by omega)]
    rfl
  | succ d ih =>
    intro k i hd hi hk
    obtain ⟨k, rfl⟩ : ∃ m, k = m + 1 := ⟨k - 1, by omega⟩
    simp only [impl_name.l0, List.range'_succ, List.all_cons]
    rw [if_pos (by omega), if_pos (by omega), okc_ite]
    cases h : okc (bt s (i : Int)) with
    | true =>
      rw [if_pos rfl, wrap_succ (show i < s.size by omega) hs, ih k (i + 1) (by omega) (by omega) (by omega)]
      rfl
    | false =>
      rw [if_neg (by simp)]
      rfl
theorem name_at (s : ByteArray) : impl_name.f 10 s = some (nameB s) := by
  unfold impl_name.f nameB
  by_cases h1 : (s.size : Int) < 1
  · rw [if_pos h1]
    simp only [impl_name.j0]
    rw [if_pos trivial, show decide (1 ≤ s.size) = false from decide_eq_false (by omega)]
    rfl
  · rw [if_neg h1]
    simp only [impl_name.j0]
    by_cases h2 : (s.size : Int) > 8
    · rw [if_pos (decide_eq_true h2), show decide (s.size ≤ 8) = false from decide_eq_false (by omega)]
      simp
    · rw [if_neg (by simpa using h2), show (0 : Int) = ((0 : Nat) : Int) from rfl, name_go s (by omega) s.size 9 0 (by omega) (by omega) (by omega)]
      rw [show decide (s.size ≤ 8) = true from decide_eq_true (by omega), show decide (1 ≤ s.size) = true from decide_eq_true (by omega)]
      rfl
def impl_ShareBookOk_1.f (k : Nat) (a0 : ByteArray) : Option (Bool) := (impl_name.f k a0).bind fun t101 => (some (!t101))
theorem impl_ShareBookOk_1.calls (k : Nat) (a0 : ByteArray) (r : Bool) (w : World) (h : impl_ShareBookOk_1.f k a0 = some r) :
  Calls Try.prog 76 #[.string a0] w fun e w' => e = .returned (.bool r) ∧ Drawn0 w w' := by
 unfold impl_ShareBookOk_1.f at h
 have H := h
 clear h
 obtain ⟨t101, A2, H⟩ := bd H
 obtain rfl := Option.some.inj H
 go_enter Try.func76, Try.ntmps76
 go_wp2_with (first | ((with_reducible refine gC 77 ?_); refine cQ (some 4) Try.func77 (impl_name.calls k a0 t101 _ A2.out) ?_; rintro w' ⟨nd, rfl⟩))
 go_ret
 exact ⟨by first | rfl | (simp; done) | (simp [*]; done), pY133⟩
theorem notName_at (s : ByteArray) : impl_ShareBookOk_1.f 10 s = some (!nameB s) := by
 unfold impl_ShareBookOk_1.f
 rw [name_at]
 rfl
def slices_ContainsFunc_string_string.f (l0 : List ByteArray) : Option (Bool) := some (l0.any fun s => !nameB s)
theorem slices_ContainsFunc_string_string.calls (A0 : Option Addr) (c0 : Nat) (l0 : List ByteArray) (r : Bool) (w : World) (hr0 : Kd.C Kd.string w A0 l0.length l0) (hc0 : l0.length ≤ c0) (h : slices_ContainsFunc_string_string.f l0 = some r) :
  Calls Try.prog 75 #[.slice A0 l0.length c0, .func (.func 76) #[] #[]] w fun e w' => e = .returned (.bool r) ∧ Below w.heap.size w w' := by
 obtain rfl := Option.some.inj h
 refine containsFunc_any 76 #[] (enters_of Try.func76 (by kernel_rfl) rfl) (fun s => !nameB s) A0 c0 l0 w hr0 (fun W s hb => ?_)
 exact (impl_ShareBookOk_1.calls 10 s (!nameB s) W (notName_at s)).mono fun e w' ⟨he, hd⟩ => ⟨he, below_then hb hb.size hd.below⟩
theorem common1_any (s : ByteArray) (gb : Nat) (A1 : Option Addr) (c1 : Nat) (l1 : List ByteArray) (W : World) (hc1 : l1.length ≤ c1) (hcell : W.cell? ⟨gb, 0, none⟩ = some (.slice A1 l1.length c1)) (hr1 : Kd.C Kd.string W A1 l1.length l1) :
  Calls Try.prog 114 #[.string s, .pointer (some ⟨gb, 0, none⟩)] W fun e w' => e = .returned (.bool (hasS l1 s)) ∧ Drawn0 W w' := by
 have HR1 := am hr1
 have HC1 := am hc1
 have HK := am (contains_at l1 s (C_len hr1))
 clear hr1 hc1
 generalize hasS l1 s = b at HK
 go_enter Try.func114, Try.ntmps114
 go_wp2_with ((go_at_call 81; refine (slices_Contains_string_string.calls (l1.length + 1) A1 c1 l1 s b _ ?s1 HC1.1 HK.out).mono ?_; (case s1 => repeat (first | exact HR1.1 | (with_reducible refine Kd.C_alloc ?_ _) | (with_reducible refine Kd.C_drewN ?_ _) | (with_reducible refine Kd.C_drew ?_))); rintro e w' ⟨rfl, ⟨nd, rfl⟩⟩))
 go_ret
 exact ⟨rfl, pY133⟩
def impl_common.f (l0 : List ByteArray) (l1 : List ByteArray) : Option (Bool) := some (l0.any (hasS l1))
theorem impl_common.calls (A0 : Option Addr) (c0 : Nat) (l0 : List ByteArray) (A1 : Option Addr) (c1 : Nat) (l1 : List ByteArray) (r : Bool) (w : World) (hr0 : Kd.C Kd.string w A0 l0.length l0) (hc0 : l0.length ≤ c0) (hr1 : Kd.C Kd.string w A1 l1.length l1) (hc1 : l1.length ≤ c1) (h : impl_common.f l0 l1 = some r) :
  Calls Try.prog 78 #[.slice A0 l0.length c0, .slice A1 l1.length c1] w fun e w' => e = .returned (.bool r) ∧ Below w.heap.size w w' := by
 obtain rfl := Option.some.inj h
 clear h
 have HW : Aside0 (Below w.heap.size w (w.alloc (.cells #[.slice A1 l1.length c1] 23 (0, 0)))) := ⟨(Below.refl _ _).alloc (Nat.le_refl _) _⟩
 have HC : Aside0 (Calls Try.prog 75 #[.slice A0 l0.length c0, .func (.func 114) #[] #[.pointer (some ⟨w.heap.size, 0, none⟩)]] (w.alloc (.cells #[.slice A1 l1.length c1] 23 (0, 0))) fun e w' => e = .returned (.bool (l0.any (hasS l1))) ∧ Below (w.alloc (.cells #[.slice A1 l1.length c1] 23 (0, 0))).heap.size (w.alloc (.cells #[.slice A1 l1.length c1] 23 (0, 0))) w') := by
  refine ⟨containsFunc_any 114 _ (enters_of Try.func114 (by kernel_rfl) rfl) (hasS l1) A0 c0 l0 _ (Kd.C_below hr0 HW.out) ?_⟩
  intro W s hb
  have hcell : W.cell? ⟨w.heap.size, 0, none⟩ = some (.slice A1 l1.length c1) := by
   rw [hb.cell (p := ⟨w.heap.size, 0, none⟩) (by simp)]
   simp
  exact (common1_any s w.heap.size A1 c1 l1 W hc1 hcell (Kd.C_below (Kd.C_below hr1 HW.out) hb)).mono fun e w' ⟨he, hd⟩ => ⟨he, below_then hb hb.size hd.below⟩
 generalize l0.any (hasS l1) = b at HC
 clear hr0 hc0 hr1 hc1
 go_enter Try.func78, Try.ntmps78
 go_wp2_with ((go_at_call 75; refine HC.out.mono ?_; rintro e w' ⟨rfl, hb'⟩))
 go_ret
 exact ⟨rfl, below_then HW.out HW.out.size hb'⟩
mutual
def impl_ShareBookOk.j0 : Nat → Bool → List ByteArray → List (S56) → Option (Bool)
 | 0, _, _, _ => none
 | k + 1, x29, x102000, x102001 => if x29 = true then (some false) else (impl_ShareBookOk.l0 k x102001 (x102001.length : Int) 0 x102000 x102001)
def impl_ShareBookOk.l0 : Nat → List (S56) → Int → Int → List ByteArray → List (S56) → Option (Bool)
 | 0, _, _, _, _, _ => none
 | k + 1, x31, x32, x33, x102000, x102001 => if x33 < x32 then (if 0 ≤ x33 then (if x33 < (x31.length : Int) then ((impl_name.f k ((rd_T56 x31 x33).f0)).bind fun t106 => (if t106 = true then (if x33 > 0 then (if 0 ≤ (wrap64 (x33 - 1)) then (if (wrap64 (x33 - 1)) < (x102001.length : Int) then (if ((Op.bytesLess (((rd_T56 x102001 (wrap64 (x33 - 1))).f0).toList) (((rd_T56 x31 x33).f0).toList)) = true) then ((impl_of.f k ((rd_T56 x31 x33).f2) x102000).bind fun t108 => (if t108 = true then ((impl_of.f k ((rd_T56 x31 x33).f1) ((rd_T56 x31 x33).f2)).bind fun t109 => (impl_ShareBookOk.j2 k x33 x31 x32 x33 (!t109) x102000 x102001 ((rd_T56 x31 x33).f0) ((rd_T56 x31 x33).f1) ((rd_T56 x31 x33).f2))) else (impl_ShareBookOk.j2 k x33 x31 x32 x33 true x102000 x102001 ((rd_T56 x31 x33).f0) ((rd_T56 x31 x33).f1) ((rd_T56 x31 x33).f2)))) else (impl_ShareBookOk.j2 k x33 x31 x32 x33 true x102000 x102001 ((rd_T56 x31 x33).f0) ((rd_T56 x31 x33).f1) ((rd_T56 x31 x33).f2))) else (none)) else (none)) else ((impl_of.f k ((rd_T56 x31 x33).f2) x102000).bind fun t110 => (if t110 = true then ((impl_of.f k ((rd_T56 x31 x33).f1) ((rd_T56 x31 x33).f2)).bind fun t111 => (impl_ShareBookOk.j2 k x33 x31 x32 x33 (!t111) x102000 x102001 ((rd_T56 x31 x33).f0) ((rd_T56 x31 x33).f1) ((rd_T56 x31 x33).f2))) else (impl_ShareBookOk.j2 k x33 x31 x32 x33 true x102000 x102001 ((rd_T56 x31 x33).f0) ((rd_T56 x31 x33).f1) ((rd_T56 x31 x33).f2))))) else (impl_ShareBookOk.j2 k x33 x31 x32 x33 true x102000 x102001 ((rd_T56 x31 x33).f0) ((rd_T56 x31 x33).f1) ((rd_T56 x31 x33).f2)))) else (none)) else (none)) else (some true)
def impl_ShareBookOk.j2 : Nat → Int → List (S56) → Int → Int → Bool → List ByteArray → List (S56) → ByteArray → List ByteArray → List ByteArray → Option (Bool)
 | 0, _, _, _, _, _, _, _, _, _, _ => none
 | k + 1, x3, x31, x32, x33, x73, x102000, x102001, x106000, x106001, x106002 => if x73 = true then (some false) else (if 0 ≤ x3 then (if x3 ≤ (x102001.length : Int) then ((some (x102001.take (x3 : Int).toNat : List (S56))).bind fun y112 => (impl_ShareBookOk.l1 k x31 x32 x33 y112 (y112.length : Int) 0 x102000 x102001 x106000 x106001 x106002)) else (none)) else (none))
def impl_ShareBookOk.l1 : Nat → List (S56) → Int → Int → List (S56) → Int → Int → List ByteArray → List (S56) → ByteArray → List ByteArray → List ByteArray → Option (Bool)
 | 0, _, _, _, _, _, _, _, _, _, _, _ => none
 | k + 1, x31, x32, x33, x77, x78, x79, x102000, x102001, x106000, x106001, x106002 => if x79 < x78 then (if 0 ≤ x79 then (if x79 < (x77.length : Int) then ((impl_common.f x106001 ((rd_T56 x77 x79).f1)).bind fun t118 => (if t118 = true then (some false) else (impl_ShareBookOk.l1 k x31 x32 x33 x77 x78 (wrap64 (x79 + 1)) x102000 x102001 x106000 x106001 x106002))) else (none)) else (none)) else (impl_ShareBookOk.l0 k x31 x32 (wrap64 (x33 + 1)) x102000 x102001)
end
def impl_ShareBookOk.f (k : Nat) (l0_0 : List ByteArray) (l0_1 : List (S56)) : Option (Bool) := if (l0_0.length : Int) > 8 then (impl_ShareBookOk.j0 k true l0_0 l0_1) else (if (l0_1.length : Int) > 5 then (impl_ShareBookOk.j0 k true l0_0 l0_1) else ((impl_of.f k l0_0 l0_0).bind fun t102 => (if t102 = true then ((slices_ContainsFunc_string_string.f l0_0).bind fun t103 => (impl_ShareBookOk.j0 k t103 l0_0 l0_1)) else (impl_ShareBookOk.j0 k true l0_0 l0_1))))
def impl_ShareBookOk.T6 : Bool × List (List Nat × List Nat) := (true, [([], []), ([0], [0]), ([1], [1]), ([2], [2]), ([3, 2], [3]), ([4], [4]), ([5, 4], [4, 5]), ([6, 4, 4], [4, 6]), ([7], [7]), ([8, 7], [7, 8]), ([7], [7]), ([10, 7], [7, 10]), ([9, 11, 7], [7, 9, 11]), ([12, 7], [7, 12]), ([13, 7], [7, 13]), ([7], [7]), ([15, 7], [7, 15]), ([14, 16, 7], [7, 14, 16]), ([7, 17, 4], [4, 7, 17]), ([4, 18], [4, 18]), ([19, 7], [19]), ([20], [20]), ([21, 20], [20, 21]), ([20], [20]), ([23, 20], [20, 23]), ([22, 24, 20, 20], [20, 22, 24]), ([25, 20], [20, 25]), ([20, 26], [20, 26]), ([27, 25], [27]), ([28], [28]), ([29, 28], [28, 29]), ([28], [28]), ([31, 28], [28, 31]), ([30, 32, 28, 28], [28, 30, 32]), ([33, 28], [28, 33]), ([28, 34], [28, 34])])
def impl_ShareBookOk.B6 : List Nat := [0, 1, 3, 7, 15, 31, 63, 127, 255, 511, 255, 1279, 4095, 8191, 16383, 255, 33023, 131071, 262143, 524287, 1048575, 2097151, 4194303, 2097151, 10485759, 33554431, 67108863, 134217727, 268435455, 536870911, 1073741823, 536870911, 2684354559, 8589934591, 17179869183, 34359738367]
theorem impl_ShareBookOk.tab6 : rtab .any (opsOf Try.f24 6) = impl_ShareBookOk.T6 := by kernel_rfl
theorem impl_ShareBookOk.bits6 : waitsOk impl_ShareBookOk.T6.2 impl_ShareBookOk.B6 = true := by kernel_rfl
theorem impl_ShareBookOk.calls (k : Nat) (A0_0 : Option Addr) (c0_0 : Nat) (l0_0 : List ByteArray) (A0_1 : Option Addr) (c0_1 : Nat) (l0_1 : List (S56)) (r : Bool) (w : World) (hr0_0 : Kd.C Kd.string w A0_0 l0_0.length l0_0) (hc0_0 : l0_0.length ≤ c0_0) (hr0_1 : Kd.C k56 w A0_1 l0_1.length l0_1) (hc0_1 : l0_1.length ≤ c0_1) (h : impl_ShareBookOk.f k l0_0 l0_1 = some r) :
  Calls Try.prog 24 #[.agg #[.slice A0_0 l0_0.length c0_0, .slice A0_1 l0_1.length c0_1]] w fun e w' => e = .returned (.bool r) ∧ Below w.heap.size w w' := by
 have hu31 := Try.underlying31
 have hu56 := Try.underlying56
 have HR0_0 := am hr0_0
 have HC0_0 := am hc0_0
 clear hr0_0 hc0_0
 have HR0_1 := am hr0_1
 have HC0_1 := am hc0_1
 clear hr0_1 hc0_1
 have HB := am (Below.refl w.heap.size w)
 unfold impl_ShareBookOk.f at h
 have H := h
 clear h
 have HC2 := am H
 clear H
 go_enter Try.func24, Try.ntmps24
 go_upto_region 1 with (first | ((with_reducible refine gD 1 ?_); (try (refine gate_guard (by rfl) ?_; dsimp only)); refine bX 1 #[.slice A0_0 l0_0.length c0_0, .slice A0_1 l0_1.length c0_1] 31 ?_; intro gb101 hg w3 hbox hb; have BK101 := am (hbox); have GW101 := am (pY89 : w.heap.size ≤ gb101); have GE101 := am (pY89 : w.heap.size ≤ gb101); replace HB := bS pY95 hb; clear hb hbox hg))
 (try simp only [Act.put, List.setIfInBounds_toArray, List.set_cons_zero, List.set_cons_succ])
 go_cut [29] (fun v29 wc => ∃ (kq : Nat) (x29_1 : Bool), v29 = .bool x29_1 ∧ Aside0 (impl_ShareBookOk.j0 kq x29_1 l0_0 l0_1 = some r) ∧ Aside0 (kq ≤ k) ∧ Aside0 (wc.heap[gb101]? = some (.cells #[(.slice A0_0 l0_0.length c0_0), (.slice A0_1 l0_1.length c0_1)] 31 (0, 0))) ∧ Aside0 (Below w.heap.size w wc))
 case first =>
  have H := HC2.1
  clear HC2
  by_cases c4 : (l0_0.length : Int) > 8
  ·rw [if_pos c4] at H
   have c4b0 : decide (8 < (l0_0.length : Int)) = true := decide_eq_true c4
   have c4b1 : decide (8 < l0_0.length) = true := decide_eq_true (by omega)
   clear c4
   (first | rw [c4b0] | (simp only [i64_w, i32_w]; rw [c4b0]) | skip)
   have H' := am H
   clear H
   obtain ⟨hcz5_0, hcz5_1, hfz5_0, hfz5_1⟩ := cz2 BK101
   go_wp2
   go_meet
   case rel => exact ⟨_, (true), (pY136), H', ⟨by first | omega | exact Nat.le_refl _⟩, ⟨rB BK101.1⟩, ⟨pY90⟩⟩
  ·rw [if_neg c4] at H
   have c4b0 : decide (8 < (l0_0.length : Int)) = false := decide_eq_false c4
   have c4b1 : decide (8 < l0_0.length) = false := decide_eq_false (by omega)
   clear c4
   (first | rw [c4b0] | (simp only [i64_w, i32_w]; rw [c4b0]) | skip)
   by_cases c6 : (l0_1.length : Int) > 5
   ·rw [if_pos c6] at H
    have c6b0 : decide (5 < (l0_1.length : Int)) = true := decide_eq_true c6
    have c6b1 : decide (5 < l0_1.length) = true := decide_eq_true (by omega)
    clear c6
    have H' := am H
    clear H
    obtain ⟨hcz7_0, hcz7_1, hfz7_0, hfz7_1⟩ := cz2 BK101
    go_wp2
    go_meet
    case rel => exact ⟨_, (true), (pY136), H', ⟨by first | omega | exact Nat.le_refl _⟩, ⟨rB BK101.1⟩, ⟨pY90⟩⟩
   ·rw [if_neg c6] at H
    have c6b0 : decide (5 < (l0_1.length : Int)) = false := decide_eq_false c6
    have c6b1 : decide (5 < l0_1.length) = false := decide_eq_false (by omega)
    clear c6
    obtain ⟨t102, A8, H⟩ := bd H
    refine tC H ?_ ?_ <;> clear H <;> intro c9 H <;> subst c9
    ·obtain ⟨t103, A10, H⟩ := bd H
     have H' := am H
     clear H
     obtain ⟨hcz11_0, hcz11_1, hfz11_0, hfz11_1⟩ := cz2 BK101
     go_wp2_with (first | (go_at_call 74; refine cM (impl_of.calls k _ _ l0_0 _ _ l0_0 true _ (pB HR0_0) HC0_0.1 (pB HR0_0) HC0_0.1 A8.out) ?_; rintro w' ⟨nd, rfl⟩) | (go_at_call 75; refine cM (slices_ContainsFunc_string_string.calls _ _ l0_0  t103 _ (pC (Kd.C_below HR0_0.1 (pY90))) HC0_0.1 A10.out) ?_; rintro w12 hb; replace BK101 := bB pY98 hb; replace HB := bS pY90 hb; (try clear hb)))
     go_meet
     case rel => exact ⟨_, (t103), (pY136), H', ⟨by first | omega | exact Nat.le_refl _⟩, ⟨rB BK101.1⟩, ⟨pY90⟩⟩
    ·have H' := am H
     clear H
     obtain ⟨hcz13_0, hcz13_1, hfz13_0, hfz13_1⟩ := cz2 BK101
     go_wp2_with (first | (go_at_call 74; refine cM (impl_of.calls k _ _ l0_0 _ _ l0_0 false _ (pB HR0_0) HC0_0.1 (pB HR0_0) HC0_0.1 A8.out) ?_; rintro w' ⟨nd, rfl⟩))
     go_meet
     case rel => exact ⟨_, (true), (pY136), H', ⟨by first | omega | exact Nat.le_refl _⟩, ⟨rB BK101.1⟩, ⟨pY90⟩⟩
 case rest =>
  clear HC2
  obtain ⟨kq, x29_1, rfl, HA, HJ1, BK101, HB⟩ := hcut
  cases kq with
  | zero => exact absurd HA.out (by simp [impl_ShareBookOk.j0])
  | succ kj1 =>
   have H := HA.out
   clear HA
   simp only [impl_ShareBookOk.j0] at H
   refine tC H ?_ ?_ <;> clear H <;> intro c14 H <;> subst c14
   ·obtain rfl := Option.some.inj H
    go_wp2
    go_ret
    exact ⟨eR, pY90⟩
   ·have H' := am H
    clear H
    obtain ⟨hcz15_0, hcz15_1, hfz15_0, hfz15_1⟩ := cz2 BK101
    go_wp2
    go_loopg [33] kj1 (fun kq v33 w' => ∃ (x33_2 : Int), v33 = .int .i64 x33_2 ∧ Aside0 (impl_ShareBookOk.l0 kq l0_1 (l0_1.length : Int) x33_2 l0_0 l0_1 = some r) ∧ Aside0 (kq ≤ kj1) ∧ Aside0 (w'.heap[gb101]? = some (.cells #[(.slice A0_0 l0_0.length c0_0), (.slice A0_1 l0_1.length c0_1)] 31 (0, 0))) ∧ Aside0 (Below w.heap.size w w'))
    case atStart => exact ⟨(0), (pY136), H', ⟨Nat.le_refl _⟩, ⟨rB BK101.1⟩, ⟨pY90⟩⟩
    case round =>
     clear H'
     try clear c14
     try clear hcz15_0 hcz15_1 hfz15_0 hfz15_1
     obtain ⟨x33_2, rfl, HA, HK2, BK101, HB⟩ := hrel
     cases gk with
     | zero => exact absurd HA.out (by simp [impl_ShareBookOk.l0])
     | succ k2 =>
      have H := HA.out
      clear HA
      simp only [impl_ShareBookOk.l0] at H
      refine ic H ?_ ?_ <;> clear H <;> intro c16b0 H
      ·obtain ⟨c17b0, H⟩ := cN H
       obtain ⟨c18b0, H⟩ := cN H
       have HC19 := am H
       clear H
       obtain ⟨ad104, A104_1, c104_1, A104_2, c104_2, e104, hx104_0, hx104_1, hx104_2, HR104_1, HC104_1, HR104_2, HC104_2, p104, q104⟩ := aT56 HR0_1 HB x33_2
       cases e104
       go_upto_region 6 with (first | ((with_reducible refine gD 4 ?_); (try (refine gate_guard (by rfl) ?_; dsimp only)); refine bX 4 #[.string (⟨#[]⟩ : ByteArray), .slice none 0 0, .slice none 0 0] 56 ?_; intro gb105 hg w20 hbox hb; have BK105 := am (hbox); have GW105 := am (pY77 : w.heap.size ≤ gb105); have GE105 := am (pY77 : w.heap.size ≤ gb105); replace HB := bS pY90 hb; have NB101_105 := nL pY98 hg; have NB105_101 := nG pY98 hg; replace BK101 := bB pY98 hb; clear hb hbox hg; have hnb21 := NB105_101.1; have hnc21 := NB101_105.1; obtain ⟨hcz22_0, hcz22_1, hcz22_2, hfz22_0, hfz22_1, hfz22_2⟩ := cz3 BK105))
       (try simp only [Act.put, List.setIfInBounds_toArray, List.set_cons_zero, List.set_cons_succ])
       go_cut [73] (fun v73 wc => ∃ (kq : Nat) (x73_18 : Bool), v73 = .bool x73_18 ∧ Aside0 (impl_ShareBookOk.j2 kq x33_2 l0_1 (l0_1.length : Int) x33_2 x73_18 l0_0 l0_1 ((rd_T56 l0_1 x33_2).f0) ((rd_T56 l0_1 x33_2).f1) ((rd_T56 l0_1 x33_2).f2) = some r) ∧ Aside0 (kq ≤ k2) ∧ Aside0 (wc.heap[gb101]? = some (.cells #[(.slice A0_0 l0_0.length c0_0), (.slice (some ad104) l0_1.length c0_1)] 31 (0, 0))) ∧ Aside0 (wc.heap[gb105]? = some (.cells #[.string ((rd_T56 l0_1 x33_2).f0), (.slice A104_1 ((rd_T56 l0_1 x33_2).f1).length c104_1), (.slice A104_2 ((rd_T56 l0_1 x33_2).f2).length c104_2)] 56 (0, 0))) ∧ Aside0 (Below w.heap.size w wc))
       case first =>
        have H := HC19.1
        clear HC19
        obtain ⟨t106, A23, H⟩ := bd H
        refine tC H ?_ ?_ <;> clear H <;> intro c24 H <;> subst c24
        ·by_cases c25 : x33_2 > 0
         ·rw [if_pos c25] at H
          have c25b0 : decide (0 < x33_2) = true := decide_eq_true c25
          clear c25
          (first | rw [c25b0] | (simp only [i64_w, i32_w]; rw [c25b0]) | skip)
          obtain ⟨ji26, hji26⟩ : ∃ j_ : Int, (wrap64 (x33_2 - 1)) = j_ := ⟨_, rfl⟩
          replace H : (if 0 ≤ (ji26) then (if (ji26) < (l0_1.length : Int) then (if ((Op.bytesLess (((rd_T56 l0_1 (ji26)).f0).toList) (((rd_T56 l0_1 x33_2).f0).toList)) = true) then ((impl_of.f k2 ((rd_T56 l0_1 x33_2).f2) l0_0).bind fun t108 => (if t108 = true then ((impl_of.f k2 ((rd_T56 l0_1 x33_2).f1) ((rd_T56 l0_1 x33_2).f2)).bind fun t109 => (impl_ShareBookOk.j2 k2 x33_2 l0_1 (l0_1.length : Int) x33_2 (!t109) l0_0 l0_1 ((rd_T56 l0_1 x33_2).f0) ((rd_T56 l0_1 x33_2).f1) ((rd_T56 l0_1 x33_2).f2))) else (impl_ShareBookOk.j2 k2 x33_2 l0_1 (l0_1.length : Int) x33_2 true l0_0 l0_1 ((rd_T56 l0_1 x33_2).f0) ((rd_T56 l0_1 x33_2).f1) ((rd_T56 l0_1 x33_2).f2)))) else (impl_ShareBookOk.j2 k2 x33_2 l0_1 (l0_1.length : Int) x33_2 true l0_0 l0_1 ((rd_T56 l0_1 x33_2).f0) ((rd_T56 l0_1 x33_2).f1) ((rd_T56 l0_1 x33_2).f2))) else (none)) else (none)) = some r := by first | (rw [hji26] at H; exact H) | (simp only [hji26] at H ⊢; exact H)
          (try rw [hji26] at A23)
          have hji26w : (IntKind.i64.wrap (x33_2 - 1)) = ji26 := (i64_w _).trans hji26
          obtain ⟨c27b0, H⟩ := cN H
          obtain ⟨c28b0, H⟩ := cN H
          by_cases c29 : ((Op.bytesLess (((rd_T56 l0_1 (ji26)).f0).toList) (((rd_T56 l0_1 x33_2).f0).toList)) = true)
          ·rw [if_pos c29] at H
           have c29b0 : (Op.bytesLess (((rd_T56 l0_1 (ji26)).f0).toList) (((rd_T56 l0_1 x33_2).f0).toList)) = true := c29
           clear c29
           obtain ⟨t108, A30, H⟩ := bd H
           refine tC H ?_ ?_ <;> clear H <;> intro c31 H <;> subst c31
           ·obtain ⟨t109, A32, H⟩ := bd H
            have H' := am H
            clear H
            try go_wp2
            obtain ⟨w33, eW_⟩ : ∃ w_, w_ = (((w20.setCell ⟨gb105, 0, none⟩ (.string ((rd_T56 l0_1 x33_2).f0))).setCell ⟨gb105, 1, none⟩ (.slice A104_1 ((rd_T56 l0_1 x33_2).f1).length c104_1)).setCell ⟨gb105, 2, none⟩ (.slice A104_2 ((rd_T56 l0_1 x33_2).f2).length c104_2)) := ⟨_, rfl⟩
            rw [← eW_]
            replace BK101 := uF3 eW_ BK101 NB101_105
            replace BK105 := uP3 eW_ BK105
            replace HB := uC3 eW_ HB GE105
            clear eW_
            replace BK101 := am (blk_drew BK101.1)
            replace BK105 := am (blk_drew BK105.1)
            replace HB := am (below_drew1 HB.1)
            have p107 : 0 ≤ ((ji26) : Int) := oT
            have q107 : (ji26) < (l0_1.length : Int) := oT
            obtain ⟨ad107, A107_1, c107_1, A107_2, c107_2, e107, hx107_0, hx107_1, hx107_2, hl107_1, hi107_1, hl107_2, hi107_2⟩ := at_T56 HR0_1.1 (ji26) p107 q107
            have hw107_2 := hx107_2
            have hw107_1 := hx107_1
            have hw107_0 := hx107_0
            obtain rfl : ad104 = ad107 := (by injection e107)
            replace hx107_0 := hX HB hx107_0
            replace hx107_1 := hX HB hx107_1
            replace hx107_2 := hX HB hx107_2
            have HR107_1 := am hi107_1
            have HC107_1 := am hl107_1
            clear hi107_1 hl107_1
            have HR107_2 := am hi107_2
            have HC107_2 := am hl107_2
            clear hi107_2 hl107_2
            replace p107 := eq_true p107
            replace q107 := eq_true q107
            refine sT [] 36 (uB3 BK105 (uB2 BK101 (uBx HB hw107_0 (uBx HB hw107_1 (uAx HB hw107_2))))) (fun hHeld => ?_); refine with_tabW impl_ShareBookOk.tab6 impl_ShareBookOk.bits6 (fun HT_ HW_ => ?_)
            generalize w33.drew = w34 at BK101 BK105 HB HR107_1 HR107_2 hx107_0 hx107_1 hx107_2 hHeld ⊢
            refine pU 0 (some 38) ?_
            refine tK8 1 (some 39) ?_
            refine oN 2 (some 40) fun K hK => ?_
            refine gQ Try.func77 (impl_name.calls k2 ((rd_T56 l0_1 x33_2).f0) true _ A23.out) ?_
            rintro w' ⟨nd, rfl⟩
            refine hK.out _ _ (uB3 BK105 (uB2 BK101 (uBx HB hw107_0 (uBx HB hw107_1 (uAx HB hw107_2))))).1 (fun hHeld => ?_)
            clear hK K
            refine nM ?_
            refine pU 3 (some 41) ?_
            refine pU 4 (some 42) ?_
            refine pU 5 (some 43) ?_
            refine pU 6 (some 44) ?_
            refine pU 7 (some 45) ?_
            refine pU 8 (some 46) ?_
            refine pU 10 (some 48) ?_
            refine pU 11 (some 49) ?_
            refine pU 15 (some 53) ?_
            refine tK8 9 (some 47) ?_
            refine pU 12 (some 50) ?_
            refine pU 13 (some 51) ?_
            refine tK8 14 (some 52) ?_
            refine tK8 16 (some 54) ?_
            refine pU 17 (some 55) ?_
            refine pU 18 (some 56) ?_
            refine pU 19 (some 57) ?_
            refine pU 20 (some 58) ?_
            refine pU 21 (some 59) ?_
            refine pU 23 (some 61) ?_
            refine tK8 22 (some 60) ?_
            refine tK8 24 (some 62) ?_
            refine oN 25 (some 63) fun K hK => ?_
            refine gQ Try.func74 (impl_of.calls k2 _ _ ((rd_T56 l0_1 x33_2).f2) _ _ l0_0 true _ (pC (Kd.C_below HR104_2.1 (pY80))) HC104_2.1 (pC (Kd.C_below HR0_0.1 (pY80))) HC0_0.1 A30.out) ?_
            rintro w' ⟨nd, rfl⟩
            refine hK.out _ _ (uB3 BK105 (uB2 BK101 (uBx HB hw107_0 (uBx HB hw107_1 (uAx HB hw107_2))))).1 (fun hHeld => ?_)
            clear hK K
            refine nM ?_
            refine pU 26 (some 64) ?_
            refine pU 27 (some 65) ?_
            refine pU 28 (some 66) ?_
            refine pU 29 (some 67) ?_
            refine pU 31 (some 69) ?_
            refine tK8 30 (some 68) ?_
            refine tK8 32 (some 70) ?_
            refine oN 33 (some 71) fun K hK => ?_
            refine gQ Try.func74 (impl_of.calls k2 _ _ ((rd_T56 l0_1 x33_2).f1) _ _ ((rd_T56 l0_1 x33_2).f2) t109 _ (pC (Kd.C_below HR104_1.1 (pY80))) HC104_1.1 (pC (Kd.C_below HR104_2.1 (pY80))) HC104_2.1 A32.out) ?_
            rintro w' ⟨nd, rfl⟩
            refine hK.out _ _ (uB3 BK105 (uB2 BK101 (uBx HB hw107_0 (uBx HB hw107_1 (uAx HB hw107_2))))).1 (fun hHeld => ?_)
            clear hK K
            refine nM ?_
            refine pU 34 (some 72) ?_
            refine pU 35 (some 73) ?_
            refine done_ (done_of HT_.out (by kernel_rfl)) ?_
            try go_wp2
            go_meet
            case rel => exact ⟨_, (!t109), (pY136), H', ⟨by have := HJ1.out; have := HK2.out; first | omega | exact Nat.le_refl _⟩, ⟨rB BK101.1⟩, ⟨rB BK105.1⟩, ⟨pY80⟩⟩
           ·have H' := am H
            clear H
            try go_wp2
            obtain ⟨w35, eW_⟩ : ∃ w_, w_ = (((w20.setCell ⟨gb105, 0, none⟩ (.string ((rd_T56 l0_1 x33_2).f0))).setCell ⟨gb105, 1, none⟩ (.slice A104_1 ((rd_T56 l0_1 x33_2).f1).length c104_1)).setCell ⟨gb105, 2, none⟩ (.slice A104_2 ((rd_T56 l0_1 x33_2).f2).length c104_2)) := ⟨_, rfl⟩
            rw [← eW_]
            replace BK101 := uF3 eW_ BK101 NB101_105
            replace BK105 := uP3 eW_ BK105
            replace HB := uC3 eW_ HB GE105
            clear eW_
            replace BK101 := am (blk_drew BK101.1)
            replace BK105 := am (blk_drew BK105.1)
            replace HB := am (below_drew1 HB.1)
            have p107 : 0 ≤ ((ji26) : Int) := oT
            have q107 : (ji26) < (l0_1.length : Int) := oT
            obtain ⟨ad107, A107_1, c107_1, A107_2, c107_2, e107, hx107_0, hx107_1, hx107_2, hl107_1, hi107_1, hl107_2, hi107_2⟩ := at_T56 HR0_1.1 (ji26) p107 q107
            have hw107_2 := hx107_2
            have hw107_1 := hx107_1
            have hw107_0 := hx107_0
            obtain rfl : ad104 = ad107 := (by injection e107)
            replace hx107_0 := hX HB hx107_0
            replace hx107_1 := hX HB hx107_1
            replace hx107_2 := hX HB hx107_2
            have HR107_1 := am hi107_1
            have HC107_1 := am hl107_1
            clear hi107_1 hl107_1
            have HR107_2 := am hi107_2
            have HC107_2 := am hl107_2
            clear hi107_2 hl107_2
            replace p107 := eq_true p107
            replace q107 := eq_true q107
            refine sT [] 36 (uB3 BK105 (uB2 BK101 (uBx HB hw107_0 (uBx HB hw107_1 (uAx HB hw107_2))))) (fun hHeld => ?_); refine with_tabW impl_ShareBookOk.tab6 impl_ShareBookOk.bits6 (fun HT_ HW_ => ?_)
            generalize w35.drew = w36 at BK101 BK105 HB HR107_1 HR107_2 hx107_0 hx107_1 hx107_2 hHeld ⊢
            refine pU 0 (some 38) ?_
            refine tK8 1 (some 39) ?_
            refine oN 2 (some 40) fun K hK => ?_
            refine gQ Try.func77 (impl_name.calls k2 ((rd_T56 l0_1 x33_2).f0) true _ A23.out) ?_
            rintro w' ⟨nd, rfl⟩
            refine hK.out _ _ (uB3 BK105 (uB2 BK101 (uBx HB hw107_0 (uBx HB hw107_1 (uAx HB hw107_2))))).1 (fun hHeld => ?_)
            clear hK K
            refine nM ?_
            refine pU 3 (some 41) ?_
            refine pU 4 (some 42) ?_
            refine pU 5 (some 43) ?_
            refine pU 6 (some 44) ?_
            refine pU 7 (some 45) ?_
            refine pU 8 (some 46) ?_
            refine pU 10 (some 48) ?_
            refine pU 11 (some 49) ?_
            refine pU 15 (some 53) ?_
            refine tK8 9 (some 47) ?_
            refine pU 12 (some 50) ?_
            refine pU 13 (some 51) ?_
            refine tK8 14 (some 52) ?_
            refine tK8 16 (some 54) ?_
            refine pU 17 (some 55) ?_
            refine pU 18 (some 56) ?_
            refine pU 19 (some 57) ?_
            refine pU 20 (some 58) ?_
            refine pU 21 (some 59) ?_
            refine pU 23 (some 61) ?_
            refine tK8 22 (some 60) ?_
            refine tK8 24 (some 62) ?_
            refine oN 25 (some 63) fun K hK => ?_
            refine gQ Try.func74 (impl_of.calls k2 _ _ ((rd_T56 l0_1 x33_2).f2) _ _ l0_0 false _ (pC (Kd.C_below HR104_2.1 (pY80))) HC104_2.1 (pC (Kd.C_below HR0_0.1 (pY80))) HC0_0.1 A30.out) ?_
            rintro w' ⟨nd, rfl⟩
            refine hK.out _ _ (uB3 BK105 (uB2 BK101 (uBx HB hw107_0 (uBx HB hw107_1 (uAx HB hw107_2))))).1 (fun hHeld => ?_)
            clear hK K
            refine nM ?_
            refine pU 26 (some 64) ?_
            refine pU 27 (some 65) ?_
            refine pU 28 (some 66) ?_
            refine pV 29 (some 67) ?_
            refine pV 30 (some 68) ?_
            refine pV 31 (some 69) ?_
            refine pV 32 (some 70) ?_
            refine pV 33 (some 71) ?_
            refine pV 34 (some 72) ?_
            refine pU 35 (some 73) ?_
            refine done_ (done_of HT_.out (by kernel_rfl)) ?_
            try go_wp2
            go_meet
            case rel => exact ⟨_, (true), (pY136), H', ⟨by have := HJ1.out; have := HK2.out; first | omega | exact Nat.le_refl _⟩, ⟨rB BK101.1⟩, ⟨rB BK105.1⟩, ⟨pY80⟩⟩
          ·rw [if_neg c29] at H
           have c29b0 : (Op.bytesLess (((rd_T56 l0_1 (ji26)).f0).toList) (((rd_T56 l0_1 x33_2).f0).toList)) = false := by simpa using c29
           clear c29
           have H' := am H
           clear H
           try go_wp2
           obtain ⟨w37, eW_⟩ : ∃ w_, w_ = (((w20.setCell ⟨gb105, 0, none⟩ (.string ((rd_T56 l0_1 x33_2).f0))).setCell ⟨gb105, 1, none⟩ (.slice A104_1 ((rd_T56 l0_1 x33_2).f1).length c104_1)).setCell ⟨gb105, 2, none⟩ (.slice A104_2 ((rd_T56 l0_1 x33_2).f2).length c104_2)) := ⟨_, rfl⟩
           rw [← eW_]
           replace BK101 := uF3 eW_ BK101 NB101_105
           replace BK105 := uP3 eW_ BK105
           replace HB := uC3 eW_ HB GE105
           clear eW_
           replace BK101 := am (blk_drew BK101.1)
           replace BK105 := am (blk_drew BK105.1)
           replace HB := am (below_drew1 HB.1)
           have p107 : 0 ≤ ((ji26) : Int) := oT
           have q107 : (ji26) < (l0_1.length : Int) := oT
           obtain ⟨ad107, A107_1, c107_1, A107_2, c107_2, e107, hx107_0, hx107_1, hx107_2, hl107_1, hi107_1, hl107_2, hi107_2⟩ := at_T56 HR0_1.1 (ji26) p107 q107
           have hw107_2 := hx107_2
           have hw107_1 := hx107_1
           have hw107_0 := hx107_0
           obtain rfl : ad104 = ad107 := (by injection e107)
           replace hx107_0 := hX HB hx107_0
           replace hx107_1 := hX HB hx107_1
           replace hx107_2 := hX HB hx107_2
           have HR107_1 := am hi107_1
           have HC107_1 := am hl107_1
           clear hi107_1 hl107_1
           have HR107_2 := am hi107_2
           have HC107_2 := am hl107_2
           clear hi107_2 hl107_2
           replace p107 := eq_true p107
           replace q107 := eq_true q107
           refine sT [] 36 (uB3 BK105 (uB2 BK101 (uBx HB hw107_0 (uBx HB hw107_1 (uAx HB hw107_2))))) (fun hHeld => ?_); refine with_tabW impl_ShareBookOk.tab6 impl_ShareBookOk.bits6 (fun HT_ HW_ => ?_)
           generalize w37.drew = w38 at BK101 BK105 HB HR107_1 HR107_2 hx107_0 hx107_1 hx107_2 hHeld ⊢
           refine pU 0 (some 38) ?_
           refine tK8 1 (some 39) ?_
           refine oN 2 (some 40) fun K hK => ?_
           refine gQ Try.func77 (impl_name.calls k2 ((rd_T56 l0_1 x33_2).f0) true _ A23.out) ?_
           rintro w' ⟨nd, rfl⟩
           refine hK.out _ _ (uB3 BK105 (uB2 BK101 (uBx HB hw107_0 (uBx HB hw107_1 (uAx HB hw107_2))))).1 (fun hHeld => ?_)
           clear hK K
           refine nM ?_
           refine pU 3 (some 41) ?_
           refine pU 4 (some 42) ?_
           refine pU 5 (some 43) ?_
           refine pU 6 (some 44) ?_
           refine pU 7 (some 45) ?_
           refine pU 8 (some 46) ?_
           refine pU 10 (some 48) ?_
           refine pU 11 (some 49) ?_
           refine pU 15 (some 53) ?_
           refine tK8 9 (some 47) ?_
           refine pU 12 (some 50) ?_
           refine pU 13 (some 51) ?_
           refine tK8 14 (some 52) ?_
           refine tK8 16 (some 54) ?_
           refine pU 17 (some 55) ?_
           refine pU 18 (some 56) ?_
           refine pU 19 (some 57) ?_
           refine pU 20 (some 58) ?_
           refine pV 21 (some 59) ?_
           refine pV 22 (some 60) ?_
           refine pV 23 (some 61) ?_
           refine pV 24 (some 62) ?_
           refine pV 25 (some 63) ?_
           refine pV 26 (some 64) ?_
           refine pU 27 (some 65) ?_
           refine pU 28 (some 66) ?_
           refine pV 29 (some 67) ?_
           refine pV 30 (some 68) ?_
           refine pV 31 (some 69) ?_
           refine pV 32 (some 70) ?_
           refine pV 33 (some 71) ?_
           refine pV 34 (some 72) ?_
           refine pU 35 (some 73) ?_
           refine done_ (done_of HT_.out (by kernel_rfl)) ?_
           try go_wp2
           go_meet
           case rel => exact ⟨_, (true), (pY136), H', ⟨by have := HJ1.out; have := HK2.out; first | omega | exact Nat.le_refl _⟩, ⟨rB BK101.1⟩, ⟨rB BK105.1⟩, ⟨pY80⟩⟩
         ·rw [if_neg c25] at H
          have c25b0 : decide (0 < x33_2) = false := decide_eq_false c25
          clear c25
          (first | rw [c25b0] | (simp only [i64_w, i32_w]; rw [c25b0]) | skip)
          obtain ⟨t110, A39, H⟩ := bd H
          refine tC H ?_ ?_ <;> clear H <;> intro c40 H <;> subst c40
          ·obtain ⟨t111, A41, H⟩ := bd H
           have H' := am H
           clear H
           try go_wp2
           obtain ⟨w42, eW_⟩ : ∃ w_, w_ = (((w20.setCell ⟨gb105, 0, none⟩ (.string ((rd_T56 l0_1 x33_2).f0))).setCell ⟨gb105, 1, none⟩ (.slice A104_1 ((rd_T56 l0_1 x33_2).f1).length c104_1)).setCell ⟨gb105, 2, none⟩ (.slice A104_2 ((rd_T56 l0_1 x33_2).f2).length c104_2)) := ⟨_, rfl⟩
           rw [← eW_]
           replace BK101 := uF3 eW_ BK101 NB101_105
           replace BK105 := uP3 eW_ BK105
           replace HB := uC3 eW_ HB GE105
           clear eW_
           replace BK101 := am (blk_drew BK101.1)
           replace BK105 := am (blk_drew BK105.1)
           replace HB := am (below_drew1 HB.1)
           refine sT [] 36 (uB3 BK105 (uA2 BK101)) (fun hHeld => ?_); refine with_tabW impl_ShareBookOk.tab6 impl_ShareBookOk.bits6 (fun HT_ HW_ => ?_)
           generalize w42.drew = w43 at BK101 BK105 HB hHeld ⊢
           refine pU 0 (some 38) ?_
           refine tK5 1 (some 39) ?_
           refine oN 2 (some 40) fun K hK => ?_
           refine gQ Try.func77 (impl_name.calls k2 ((rd_T56 l0_1 x33_2).f0) true _ A23.out) ?_
           rintro w' ⟨nd, rfl⟩
           refine hK.out _ _ (uB3 BK105 (uA2 BK101)).1 (fun hHeld => ?_)
           clear hK K
           refine nM ?_
           refine pU 3 (some 41) ?_
           refine pU 4 (some 42) ?_
           refine pU 5 (some 43) ?_
           refine pU 6 (some 44) ?_
           refine pU 7 (some 45) ?_
           refine pV 8 (some 46) ?_
           refine pV 9 (some 47) ?_
           refine pV 10 (some 48) ?_
           refine pV 11 (some 49) ?_
           refine pV 12 (some 50) ?_
           refine pV 13 (some 51) ?_
           refine pV 14 (some 52) ?_
           refine pV 15 (some 53) ?_
           refine pV 16 (some 54) ?_
           refine pV 17 (some 55) ?_
           refine pU 18 (some 56) ?_
           refine pU 19 (some 57) ?_
           refine pU 20 (some 58) ?_
           refine pU 21 (some 59) ?_
           refine pU 23 (some 61) ?_
           refine tK5 22 (some 60) ?_
           refine tK5 24 (some 62) ?_
           refine oN 25 (some 63) fun K hK => ?_
           refine gQ Try.func74 (impl_of.calls k2 _ _ ((rd_T56 l0_1 x33_2).f2) _ _ l0_0 true _ (pC (Kd.C_below HR104_2.1 (pY80))) HC104_2.1 (pC (Kd.C_below HR0_0.1 (pY80))) HC0_0.1 A39.out) ?_
           rintro w' ⟨nd, rfl⟩
           refine hK.out _ _ (uB3 BK105 (uA2 BK101)).1 (fun hHeld => ?_)
           clear hK K
           refine nM ?_
           refine pU 26 (some 64) ?_
           refine pU 27 (some 65) ?_
           refine pU 28 (some 66) ?_
           refine pU 29 (some 67) ?_
           refine pU 31 (some 69) ?_
           refine tK5 30 (some 68) ?_
           refine tK5 32 (some 70) ?_
           refine oN 33 (some 71) fun K hK => ?_
           refine gQ Try.func74 (impl_of.calls k2 _ _ ((rd_T56 l0_1 x33_2).f1) _ _ ((rd_T56 l0_1 x33_2).f2) t111 _ (pC (Kd.C_below HR104_1.1 (pY80))) HC104_1.1 (pC (Kd.C_below HR104_2.1 (pY80))) HC104_2.1 A41.out) ?_
           rintro w' ⟨nd, rfl⟩
           refine hK.out _ _ (uB3 BK105 (uA2 BK101)).1 (fun hHeld => ?_)
           clear hK K
           refine nM ?_
           refine pU 34 (some 72) ?_
           refine pU 35 (some 73) ?_
           refine done_ (done_of HT_.out (by kernel_rfl)) ?_
           try go_wp2
           go_meet
           case rel => exact ⟨_, (!t111), (pY136), H', ⟨by have := HJ1.out; have := HK2.out; first | omega | exact Nat.le_refl _⟩, ⟨rB BK101.1⟩, ⟨rB BK105.1⟩, ⟨pY80⟩⟩
          ·have H' := am H
           clear H
           try go_wp2
           obtain ⟨w44, eW_⟩ : ∃ w_, w_ = (((w20.setCell ⟨gb105, 0, none⟩ (.string ((rd_T56 l0_1 x33_2).f0))).setCell ⟨gb105, 1, none⟩ (.slice A104_1 ((rd_T56 l0_1 x33_2).f1).length c104_1)).setCell ⟨gb105, 2, none⟩ (.slice A104_2 ((rd_T56 l0_1 x33_2).f2).length c104_2)) := ⟨_, rfl⟩
           rw [← eW_]
           replace BK101 := uF3 eW_ BK101 NB101_105
           replace BK105 := uP3 eW_ BK105
           replace HB := uC3 eW_ HB GE105
           clear eW_
           replace BK101 := am (blk_drew BK101.1)
           replace BK105 := am (blk_drew BK105.1)
           replace HB := am (below_drew1 HB.1)
           refine sT [] 36 (uB3 BK105 (uA2 BK101)) (fun hHeld => ?_); refine with_tabW impl_ShareBookOk.tab6 impl_ShareBookOk.bits6 (fun HT_ HW_ => ?_)
           generalize w44.drew = w45 at BK101 BK105 HB hHeld ⊢
           refine pU 0 (some 38) ?_
           refine tK5 1 (some 39) ?_
           refine oN 2 (some 40) fun K hK => ?_
           refine gQ Try.func77 (impl_name.calls k2 ((rd_T56 l0_1 x33_2).f0) true _ A23.out) ?_
           rintro w' ⟨nd, rfl⟩
           refine hK.out _ _ (uB3 BK105 (uA2 BK101)).1 (fun hHeld => ?_)
           clear hK K
           refine nM ?_
           refine pU 3 (some 41) ?_
           refine pU 4 (some 42) ?_
           refine pU 5 (some 43) ?_
           refine pU 6 (some 44) ?_
           refine pU 7 (some 45) ?_
           refine pV 8 (some 46) ?_
           refine pV 9 (some 47) ?_
           refine pV 10 (some 48) ?_
           refine pV 11 (some 49) ?_
           refine pV 12 (some 50) ?_
           refine pV 13 (some 51) ?_
           refine pV 14 (some 52) ?_
           refine pV 15 (some 53) ?_
           refine pV 16 (some 54) ?_
           refine pV 17 (some 55) ?_
           refine pU 18 (some 56) ?_
           refine pU 19 (some 57) ?_
           refine pU 20 (some 58) ?_
           refine pU 21 (some 59) ?_
           refine pU 23 (some 61) ?_
           refine tK5 22 (some 60) ?_
           refine tK5 24 (some 62) ?_
           refine oN 25 (some 63) fun K hK => ?_
           refine gQ Try.func74 (impl_of.calls k2 _ _ ((rd_T56 l0_1 x33_2).f2) _ _ l0_0 false _ (pC (Kd.C_below HR104_2.1 (pY80))) HC104_2.1 (pC (Kd.C_below HR0_0.1 (pY80))) HC0_0.1 A39.out) ?_
           rintro w' ⟨nd, rfl⟩
           refine hK.out _ _ (uB3 BK105 (uA2 BK101)).1 (fun hHeld => ?_)
           clear hK K
           refine nM ?_
           refine pU 26 (some 64) ?_
           refine pU 27 (some 65) ?_
           refine pU 28 (some 66) ?_
           refine pV 29 (some 67) ?_
           refine pV 30 (some 68) ?_
           refine pV 31 (some 69) ?_
           refine pV 32 (some 70) ?_
           refine pV 33 (some 71) ?_
           refine pV 34 (some 72) ?_
           refine pU 35 (some 73) ?_
           refine done_ (done_of HT_.out (by kernel_rfl)) ?_
           try go_wp2
           go_meet
           case rel => exact ⟨_, (true), (pY136), H', ⟨by have := HJ1.out; have := HK2.out; first | omega | exact Nat.le_refl _⟩, ⟨rB BK101.1⟩, ⟨rB BK105.1⟩, ⟨pY80⟩⟩
        ·have H' := am H
         clear H
         try go_wp2
         obtain ⟨w46, eW_⟩ : ∃ w_, w_ = (((w20.setCell ⟨gb105, 0, none⟩ (.string ((rd_T56 l0_1 x33_2).f0))).setCell ⟨gb105, 1, none⟩ (.slice A104_1 ((rd_T56 l0_1 x33_2).f1).length c104_1)).setCell ⟨gb105, 2, none⟩ (.slice A104_2 ((rd_T56 l0_1 x33_2).f2).length c104_2)) := ⟨_, rfl⟩
         rw [← eW_]
         replace BK101 := uF3 eW_ BK101 NB101_105
         replace BK105 := uP3 eW_ BK105
         replace HB := uC3 eW_ HB GE105
         clear eW_
         replace BK101 := am (blk_drew BK101.1)
         replace BK105 := am (blk_drew BK105.1)
         replace HB := am (below_drew1 HB.1)
         refine sT [] 36 (uA3 BK105) (fun hHeld => ?_); refine with_tabW impl_ShareBookOk.tab6 impl_ShareBookOk.bits6 (fun HT_ HW_ => ?_)
         generalize w46.drew = w47 at BK101 BK105 HB hHeld ⊢
         refine pU 0 (some 38) ?_
         refine tK3 1 (some 39) ?_
         refine oN 2 (some 40) fun K hK => ?_
         refine gQ Try.func77 (impl_name.calls k2 ((rd_T56 l0_1 x33_2).f0) false _ A23.out) ?_
         rintro w' ⟨nd, rfl⟩
         refine hK.out _ _ (uA3 BK105).1 (fun hHeld => ?_)
         clear hK K
         refine nM ?_
         refine pU 3 (some 41) ?_
         refine pU 4 (some 42) ?_
         refine pV 5 (some 43) ?_
         refine pV 6 (some 44) ?_
         refine pV 7 (some 45) ?_
         refine pV 8 (some 46) ?_
         refine pV 9 (some 47) ?_
         refine pV 10 (some 48) ?_
         refine pV 11 (some 49) ?_
         refine pV 12 (some 50) ?_
         refine pV 13 (some 51) ?_
         refine pV 14 (some 52) ?_
         refine pV 15 (some 53) ?_
         refine pV 16 (some 54) ?_
         refine pV 17 (some 55) ?_
         refine pV 18 (some 56) ?_
         refine pU 19 (some 57) ?_
         refine pU 20 (some 58) ?_
         refine pV 21 (some 59) ?_
         refine pV 22 (some 60) ?_
         refine pV 23 (some 61) ?_
         refine pV 24 (some 62) ?_
         refine pV 25 (some 63) ?_
         refine pV 26 (some 64) ?_
         refine pU 27 (some 65) ?_
         refine pU 28 (some 66) ?_
         refine pV 29 (some 67) ?_
         refine pV 30 (some 68) ?_
         refine pV 31 (some 69) ?_
         refine pV 32 (some 70) ?_
         refine pV 33 (some 71) ?_
         refine pV 34 (some 72) ?_
         refine pU 35 (some 73) ?_
         refine done_ (done_of HT_.out (by kernel_rfl)) ?_
         try go_wp2
         go_meet
         case rel => exact ⟨_, (true), (pY136), H', ⟨by have := HJ1.out; have := HK2.out; first | omega | exact Nat.le_refl _⟩, ⟨rB BK101.1⟩, ⟨rB BK105.1⟩, ⟨pY80⟩⟩
       case rest =>
        clear HC19
        obtain ⟨kq, x73_18, rfl, HA, HJ18, BK101, BK105, HB⟩ := hcut
        cases kq with
        | zero => exact absurd HA.out (by simp [impl_ShareBookOk.j2])
        | succ kj18 =>
         have H := HA.out
         clear HA
         simp only [impl_ShareBookOk.j2] at H
         refine tC H ?_ ?_ <;> clear H <;> intro c48 H <;> subst c48
         ·obtain rfl := Option.some.inj H
          go_wp2
          go_ret
          exact ⟨eR, pY80⟩
         ·by_cases c49 : 0 ≤ x33_2
          ·rw [if_pos c49] at H
           have c49b0 := eq_true c49
           have c49b1 : decide (0 ≤ x33_2) = true := decide_eq_true c49
           clear c49
           by_cases c50 : x33_2 ≤ (l0_1.length : Int)
           ·rw [if_pos c50] at H
            have c50b0 := eq_true c50
            have c50b1 : decide (x33_2 ≤ (l0_1.length : Int)) = true := decide_eq_true c50
            clear c50
            obtain ⟨y112, Ny112, H⟩ := bY H
            have H' := am H
            clear H
            have hnb51 := NB101_105.1
            have hnc51 := NB105_101.1
            obtain ⟨hcz52_0, hcz52_1, hfz52_0, hfz52_1⟩ := cz2 BK101
            have q53 : (x33_2 : Int) ≤ ((l0_1.length : Int) : Int) := oT
            obtain ⟨i053, hi053, _, hsz53, _⟩ := info_parts info56
            have hroom53 : l0_1.length ≤ c0_1 := HC0_1.1
            have hC53 : Kd.C k56 _ (some ad104) l0_1.length l0_1 := HR0_1.1
            have hcut53 := cut_to (P := Try.prog) 29 56 .i64 Try.underlying29 hi053 (some ad104) l0_1.length c0_1 x33_2 (oT) q53 hroom53
            have hr53 := Kd.C_take (m := (x33_2 : Int).toNat) hC53 (by omega)
            have hy53 : y112.length = (x33_2 : Int).toNat := (by rw [Ny112.out, List.length_take]; omega)
            rw [← Ny112.out] at hr53
            rw [← hy53] at hcut53
            have HR115 := am hr53
            have HC115 := am (show y112.length ≤ c0_1 from by omega)
            clear hr53 hC53 hroom53 hi053 hsz53
            have KY53 := am hy53
            clear hy53
            replace q53 := eq_true q53
            go_wp2
            go_loopg [79] kj18 (fun kq v79 w' => ∃ (x79_4 : Int), v79 = .int .i64 x79_4 ∧ Aside0 (impl_ShareBookOk.l1 kq l0_1 (l0_1.length : Int) x33_2 y112 (y112.length : Int) x79_4 l0_0 l0_1 ((rd_T56 l0_1 x33_2).f0) ((rd_T56 l0_1 x33_2).f1) ((rd_T56 l0_1 x33_2).f2) = some r) ∧ Aside0 (kq ≤ kj18) ∧ Aside0 (w'.heap[gb101]? = some (.cells #[(.slice A0_0 l0_0.length c0_0), (.slice (some ad104) l0_1.length c0_1)] 31 (0, 0))) ∧ Aside0 (w'.heap[gb105]? = some (.cells #[.string ((rd_T56 l0_1 x33_2).f0), (.slice A104_1 ((rd_T56 l0_1 x33_2).f1).length c104_1), (.slice A104_2 ((rd_T56 l0_1 x33_2).f2).length c104_2)] 56 (0, 0))) ∧ Aside0 (Below w.heap.size w w'))
            case atStart => exact ⟨(0), (pY136), H', ⟨Nat.le_refl _⟩, ⟨rB BK101.1⟩, ⟨rB BK105.1⟩, ⟨pY80⟩⟩
            case round =>
             clear H'
             try clear c48
             try clear c49
             try clear c49b0
             try clear c49b1
             try clear c50
             try clear c50b0
             try clear c50b1
             try clear q53 q53
             try clear hcz52_0 hcz52_1 hfz52_0 hfz52_1
             obtain ⟨x79_4, rfl, HA, HK4, BK101, BK105, HB⟩ := hrel
             cases gk with
             | zero => exact absurd HA.out (by simp [impl_ShareBookOk.l1])
             | succ k4 =>
              have H := HA.out
              clear HA
              simp only [impl_ShareBookOk.l1] at H
              refine ic H ?_ ?_ <;> clear H <;> intro c54b0 H
              obtain ⟨c55b0, H⟩ := cN H
              obtain ⟨c56b0, H⟩ := cN H
              obtain ⟨t118, A57, H⟩ := bd H
              refine tC H ?_ ?_ <;> clear H <;> intro c58 H <;> subst c58
              obtain rfl := Option.some.inj H
              obtain ⟨ad116, A116_1, c116_1, A116_2, c116_2, e116, hx116_0, hx116_1, hx116_2, HR116_1, HC116_1, HR116_2, HC116_2, p116, q116⟩ := aT56 HR115 HB x79_4
              obtain rfl : ad104 = ad116 := (by injection e116)
              have M10_ := trivial
              rotate_left
              have H' := am H
              clear H
              obtain ⟨ad116, A116_1, c116_1, A116_2, c116_2, e116, hx116_0, hx116_1, hx116_2, HR116_1, HC116_1, HR116_2, HC116_2, p116, q116⟩ := aT56 HR115 HB x79_4
              obtain rfl : ad104 = ad116 := (by injection e116)
              have M11_ := trivial
              rotate_left
              have H' := am H
              clear H
              rotate_left
              all_goals
               go_wp2_with (first | ((with_reducible refine gD 6 ?_); (try (refine gate_guard (by rfl) ?_; dsimp only)); refine bX 6 #[.string (⟨#[]⟩ : ByteArray), .slice none 0 0, .slice none 0 0] 56 ?_; intro gb117 hg w1360 hbox hb; have BK117 := am (hbox); have GW117 := am (pY64 : w.heap.size ≤ gb117); have GE117 := am (pY64 : w.heap.size ≤ gb117); replace HB := bS pY80 hb; have NB101_117 := nL pY98 hg; have NB117_101 := nG pY98 hg; replace BK101 := bB pY98 hb; have NB105_117 := am (by rw [hg]; exact Nat.ne_of_lt (blk_lt (g := gb105) (o := .cells #[.string ((rd_T56 l0_1 x33_2).f0), .slice A104_1 ((rd_T56 l0_1 x33_2).f1).length c104_1, .slice A104_2 ((rd_T56 l0_1 x33_2).f2).length c104_2] 56 (0, 0)) (rB BK105.1)) : gb105 ≠ gb117); have NB117_105 := am (by rw [hg]; exact Nat.ne_of_gt (blk_lt (g := gb105) (o := .cells #[.string ((rd_T56 l0_1 x33_2).f0), .slice A104_1 ((rd_T56 l0_1 x33_2).f1).length c104_1, .slice A104_2 ((rd_T56 l0_1 x33_2).f2).length c104_2] 56 (0, 0)) (rB BK105.1)) : gb117 ≠ gb105); replace BK105 := am (blk_below (g := gb105) (o := .cells #[.string ((rd_T56 l0_1 x33_2).f0), .slice A104_1 ((rd_T56 l0_1 x33_2).f1).length c104_1, .slice A104_2 ((rd_T56 l0_1 x33_2).f2).length c104_2] 56 (0, 0)) (rB BK105.1) hb); clear hb hbox hg; have hnb1361 := NB117_101.1; have hnc1362 := NB101_117.1; have hnb1363 := NB117_105.1; have hnc1364 := NB105_117.1; obtain ⟨hcz1365_0, hcz1365_1, hcz1365_2, hfz1366_0, hfz1366_1, hfz1366_2⟩ := cz3 BK117; have hnb1367 := NB105_101.1; have hnc1368 := NB101_105.1; obtain ⟨hcz1369_0, hcz1369_1, hcz1369_2, hfz1370_0, hfz1370_1, hfz1370_2⟩ := cz3 BK105) | ((with_reducible refine gC 78 ?_); clear M10_; refine cQ (some 87) Try.func78 (impl_common.calls _ _ ((rd_T56 l0_1 x33_2).f1) _ _ ((rd_T56 y112 x79_4).f1) true _ (Kd.C_below HR104_1.1 (pY66)) HC104_1.1 (Kd.C_below HR116_1.1 (pY66)) HC116_1.1 A57.out) ?_; rintro w1400 hb; replace BK101 := am (blk_below (g := gb101) (o := .cells #[.slice A0_0 l0_0.length c0_0, .slice (some ad104) l0_1.length c0_1] 31 (0, 0)) (by refine rB ?_; refine blk_far ?_ NB101_117.1 _; refine rB ?_; refine blk_far ?_ NB101_117.1 _; refine rB ?_; refine blk_far ?_ NB101_117.1 _; refine rB ?_; exact BK101.1) hb); replace BK105 := am (blk_below (g := gb105) (o := .cells #[.string ((rd_T56 l0_1 x33_2).f0), .slice A104_1 ((rd_T56 l0_1 x33_2).f1).length c104_1, .slice A104_2 ((rd_T56 l0_1 x33_2).f2).length c104_2] 56 (0, 0)) (by refine rB ?_; refine blk_far ?_ NB105_117.1 _; refine rB ?_; refine blk_far ?_ NB105_117.1 _; refine rB ?_; refine blk_far ?_ NB105_117.1 _; refine rB ?_; exact BK105.1) hb); replace BK117 := am (blk_below (g := gb117) (o := .cells #[.string ((rd_T56 y112 x79_4).f0), .slice A116_1 ((rd_T56 y112 x79_4).f1).length c116_1, .slice A116_2 ((rd_T56 y112 x79_4).f2).length c116_2] 56 (0, 0)) (pY0) hb); replace HB := bS pY66 hb; (try clear hb)) | ((with_reducible refine gC 78 ?_); clear M11_; refine cQ (some 87) Try.func78 (impl_common.calls _ _ ((rd_T56 l0_1 x33_2).f1) _ _ ((rd_T56 y112 x79_4).f1) false _ (Kd.C_below HR104_1.1 (pY66)) HC104_1.1 (Kd.C_below HR116_1.1 (pY66)) HC116_1.1 A57.out) ?_; rintro w1440 hb; replace BK101 := am (blk_below (g := gb101) (o := .cells #[.slice A0_0 l0_0.length c0_0, .slice (some ad104) l0_1.length c0_1] 31 (0, 0)) (by refine rB ?_; refine blk_far ?_ NB101_117.1 _; refine rB ?_; refine blk_far ?_ NB101_117.1 _; refine rB ?_; refine blk_far ?_ NB101_117.1 _; refine rB ?_; exact BK101.1) hb); replace BK105 := am (blk_below (g := gb105) (o := .cells #[.string ((rd_T56 l0_1 x33_2).f0), .slice A104_1 ((rd_T56 l0_1 x33_2).f1).length c104_1, .slice A104_2 ((rd_T56 l0_1 x33_2).f2).length c104_2] 56 (0, 0)) (by refine rB ?_; refine blk_far ?_ NB105_117.1 _; refine rB ?_; refine blk_far ?_ NB105_117.1 _; refine rB ?_; refine blk_far ?_ NB105_117.1 _; refine rB ?_; exact BK105.1) hb); replace BK117 := am (blk_below (g := gb117) (o := .cells #[.string ((rd_T56 y112 x79_4).f0), .slice A116_1 ((rd_T56 y112 x79_4).f1).length c116_1, .slice A116_2 ((rd_T56 y112 x79_4).f2).length c116_2] 56 (0, 0)) (pY0) hb); replace HB := bS pY66 hb; (try clear hb)))
              ·go_ret
               exact ⟨eR, pY66⟩
              ·go_roundg k4
               case measure => have := HJ1.out; have := HK2.out; have := HJ18.out; have := HK4.out; omega
               case rel => exact ⟨(wrap64 (x79_4 + 1)), (pY136), H', ⟨by have := HJ1.out; have := HK2.out; have := HJ18.out; have := HK4.out; omega⟩, ⟨rB BK101.1⟩, ⟨rB BK105.1⟩, ⟨pY66⟩⟩
              ·go_roundg k4
               case measure => have := HJ1.out; have := HK2.out; have := HJ18.out; have := HK4.out; omega
               case rel => exact ⟨(wrap64 (x33_2 + 1)), (pY136), H', ⟨by have := HJ1.out; have := HK2.out; have := HJ18.out; have := HK4.out; omega⟩, ⟨rB BK101.1⟩, ⟨pY80⟩⟩
           ·rw [if_neg c50] at H
            exact absurd H (by simp)
          ·rw [if_neg c49] at H
           exact absurd H (by simp)
      ·obtain rfl := Option.some.inj H
       go_wp2
       go_ret
       exact ⟨eR, pY90⟩
end Go.Proofs.Ytaofjgnhapnndaa.Q
namespace Go.Proofs.Ytaofjgnhapnndaa.Q
open Go.RowKit Go.Proofs.YtaofjgnhapnndaaW.PrintWords Go.Proofs.YtaofjgnhapnndaaW.PrintLast Go.Proofs.YtaofjgnhapnndaaW.PrintMore
set_option linter.unusedVariables false
set_option linter.unusedSimpArgs false
def impl_ShareWho.l0 : Nat → ByteArray → List (S56) → Int → Int → Option (ByteArray)
 | 0, _, _, _, _ => none
 | k + 1, x1, x11, x12, x13 => if x13 < x12 then (if 0 ≤ x13 then (if x13 < (x11.length : Int) then ((slices_Contains_string_string.f k ((rd_T56 x11 x13).f1) x1).bind fun t105 => (if t105 = true then (some ((rd_T56 x11 x13).f0)) else (impl_ShareWho.l0 k x1 x11 x12 (wrap64 (x13 + 1))))) else (none)) else (none)) else (some (⟨#[]⟩ : ByteArray))
def impl_ShareWho.f (k : Nat) (l0_0 : List ByteArray) (l0_1 : List (S56)) (a1 : ByteArray) : Option (ByteArray) := (impl_ShareBookOk.f k l0_0 l0_1).bind fun t102 => (if t102 = true then (impl_ShareWho.l0 k a1 l0_1 (l0_1.length : Int) 0) else (some (⟨#[]⟩ : ByteArray)))
theorem impl_ShareWho.calls (k : Nat) (A0_0 : Option Addr) (c0_0 : Nat) (l0_0 : List ByteArray) (A0_1 : Option Addr) (c0_1 : Nat) (l0_1 : List (S56)) (a1 : ByteArray) (r : ByteArray) (w : World) (hr0_0 : Kd.C Kd.string w A0_0 l0_0.length l0_0) (hc0_0 : l0_0.length ≤ c0_0) (hr0_1 : Kd.C k56 w A0_1 l0_1.length l0_1) (hc0_1 : l0_1.length ≤ c0_1) (h : impl_ShareWho.f k l0_0 l0_1 a1 = some r) :
  Calls Try.prog 27 #[.agg #[.slice A0_0 l0_0.length c0_0, .slice A0_1 l0_1.length c0_1], .string a1] w fun e w' => e = .returned (.string r) ∧ Below w.heap.size w w' := by
 have hu31 := Try.underlying31
 have hu56 := Try.underlying56
 have HR0_0 := am hr0_0
 have HC0_0 := am hc0_0
 clear hr0_0 hc0_0
 have HR0_1 := am hr0_1
 have HC0_1 := am hc0_1
 clear hr0_1 hc0_1
 have HB := am (Below.refl w.heap.size w)
 unfold impl_ShareWho.f at h
 have H := h
 clear h
 obtain ⟨t102, A3, H⟩ := bd H
 refine tC H ?_ ?_ <;> clear H <;> intro c4 H <;> subst c4
 have H' := am H
 clear H
 have M13_ := trivial
 rotate_left
 obtain rfl := Option.some.inj H
 have M14_ := trivial
 rotate_left
 all_goals
  go_enter Try.func27, Try.ntmps27
  go_wp2_with (first | ((with_reducible refine gD 2 ?_); refine bX 2 #[.slice A0_0 l0_0.length c0_0, .slice A0_1 l0_1.length c0_1] 31 ?_; intro gb101 hg w1480 hbox hb; have BK101 := am (hbox); have GW101 := am (pY89 : w.heap.size ≤ gb101); have GE101 := am (pY89 : w.heap.size ≤ gb101); replace HB := bS pY95 hb; clear hb hbox hg; obtain ⟨hcz1481_0, hcz1481_1, hfz1482_0, hfz1482_1⟩ := cz2 BK101) | ((with_reducible refine gC 24 ?_); clear M13_; refine cQ (some 8) Try.func24 (impl_ShareBookOk.calls k _ _ l0_0 _ _ l0_1 true _ (pB HR0_0) HC0_0.1 (pB HR0_1) HC0_1.1 A3.out) ?_; rintro w1520 hb; replace BK101 := bB pY98 hb; replace HB := bS pY90 hb; (try clear hb); obtain ⟨hcz1521_0, hcz1521_1, hfz1522_0, hfz1522_1⟩ := cz2 BK101) | ((with_reducible refine gC 24 ?_); clear M14_; refine cQ (some 8) Try.func24 (impl_ShareBookOk.calls k _ _ l0_0 _ _ l0_1 false _ (pB HR0_0) HC0_0.1 (pB HR0_1) HC0_1.1 A3.out) ?_; rintro w1560 hb; replace BK101 := bB pY98 hb; replace HB := bS pY90 hb; (try clear hb)))
 ·go_loopg [13] k (fun kq v13 w' => ∃ (x13_1 : Int), v13 = .int .i64 x13_1 ∧ Aside0 (impl_ShareWho.l0 kq a1 l0_1 (l0_1.length : Int) x13_1 = some r) ∧ Aside0 (kq ≤ k) ∧ Aside0 (w'.heap[gb101]? = some (.cells #[(.slice A0_0 l0_0.length c0_0), (.slice A0_1 l0_1.length c0_1)] 31 (0, 0))) ∧ Aside0 (Below w.heap.size w w'))
  case atStart => exact ⟨(0), (pY136), H', ⟨Nat.le_refl _⟩, ⟨rB BK101.1⟩, ⟨pY90⟩⟩
  case round =>
   clear H'
   try clear c4
   try clear hcz1481_0 hcz1481_1 hfz1482_0 hfz1482_1
   try clear hcz1521_0 hcz1521_1 hfz1522_0 hfz1522_1
   obtain ⟨x13_1, rfl, HA, HK1, BK101, HB⟩ := hrel
   cases gk with
   | zero => exact absurd HA.out (by simp [impl_ShareWho.l0])
   | succ k1 =>
    have H := HA.out
    clear HA
    simp only [impl_ShareWho.l0] at H
    refine ic H ?_ ?_ <;> clear H <;> intro c9b0 H
    obtain ⟨c10b0, H⟩ := cN H
    obtain ⟨c11b0, H⟩ := cN H
    obtain ⟨t105, A12, H⟩ := bd H
    refine tC H ?_ ?_ <;> clear H <;> intro c13 H <;> subst c13
    obtain rfl := Option.some.inj H
    obtain ⟨ad103, A103_1, c103_1, A103_2, c103_2, e103, hx103_0, hx103_1, hx103_2, HR103_1, HC103_1, HR103_2, HC103_2, p103, q103⟩ := aT56 HR0_1 HB x13_1
    cases e103
    have M16_ := trivial
    rotate_left
    have H' := am H
    clear H
    obtain ⟨ad103, A103_1, c103_1, A103_2, c103_2, e103, hx103_0, hx103_1, hx103_2, HR103_1, HC103_1, HR103_2, HC103_2, p103, q103⟩ := aT56 HR0_1 HB x13_1
    cases e103
    have M17_ := trivial
    rotate_left
    obtain rfl := Option.some.inj H
    rotate_left
    all_goals
     go_wp2_with (first | ((with_reducible refine gD 6 ?_); refine bX 6 #[.string (⟨#[]⟩ : ByteArray), .slice none 0 0, .slice none 0 0] 56 ?_; intro gb104 hg w1600 hbox hb; have BK104 := am (hbox); have GW104 := am (pY77 : w.heap.size ≤ gb104); have GE104 := am (pY77 : w.heap.size ≤ gb104); replace HB := bS pY90 hb; have NB101_104 := nL pY98 hg; have NB104_101 := nG pY98 hg; replace BK101 := bB pY98 hb; clear hb hbox hg; have hnb1601 := NB104_101.1; have hnc1602 := NB101_104.1; obtain ⟨hcz1603_0, hcz1603_1, hcz1603_2, hfz1604_0, hfz1604_1, hfz1604_2⟩ := cz3 BK104) | ((with_reducible refine gC 81 ?_); clear M16_; refine cQ (some 20) Try.func81 (slices_Contains_string_string.calls k1 _ _ ((rd_T56 l0_1 x13_1).f1) a1 true _ (Kd.C_below HR103_1.1 (pY79)) HC103_1.1 A12.out) ?_; rintro w' ⟨nd, rfl⟩) | ((with_reducible refine gC 81 ?_); clear M17_; refine cQ (some 20) Try.func81 (slices_Contains_string_string.calls k1 _ _ ((rd_T56 l0_1 x13_1).f1) a1 false _ (Kd.C_below HR103_1.1 (pY79)) HC103_1.1 A12.out) ?_; rintro w' ⟨nd, rfl⟩))
    ·go_ret
     exact ⟨eR, pY79⟩
    ·go_roundg k1
     case measure => have := HK1.out; omega
     case rel => exact ⟨(wrap64 (x13_1 + 1)), (pY136), H', ⟨by have := HK1.out; omega⟩, ⟨by refine rB ?_; refine blk_far ?_ NB101_104.1 _; refine rB ?_; refine blk_far ?_ NB101_104.1 _; refine rB ?_; refine blk_far ?_ NB101_104.1 _; refine rB ?_; exact BK101.1⟩, ⟨pY79⟩⟩
    ·go_ret
     exact ⟨eR, pY90⟩
 ·go_ret
  exact ⟨eR, pY90⟩
def IsS103 (w0 W : World) (g : Nat) (f0 : List Int) (f1 : Int) : Prop := ∃ A0 c0, W.heap[g]? = some (.cells #[.slice A0 f0.length c0, .int .i64 f1] 103 (0, 0)) ∧ w0.heap.size ≤ g ∧ Kd.C (Kd.int .u8) w0 A0 f0.length f0
theorem IsS103.grown {w0 W : World} {g : Nat} {f0 : List Int} {f1 : Int} {W1 : World} {row : Option Nat} (h : IsS103 w0 W g f0 f1) (hw : W.grownBy W1 row) (hne : some g ≠ row) : IsS103 w0 W1 g f0 f1 := by
 obtain ⟨A0, c0, hb, hg, hr0⟩ := h
 exact ⟨A0, c0, blk_grown hb hw hne, hg, hr0⟩
theorem IsS103.own_neN {w0 W : World} {g : Nat} {f0 : List Int} {f1 : Int} {α : Type} {d : Kd α} {e : Nat} {base : Nat} {ok : Nat → Prop} {v : Value} {xs : List α} (h : IsS103 w0 W g f0 f1) (ho : Kd.N d e W base ok v xs) (ht : e ≠ 103) : some g ≠ v.ownBlock := by
 obtain ⟨A0, c0, hb, hg, hr0⟩ := h
 exact Kd.N_ne ho hb ht
theorem IsS103.fresh {w0 W : World} {g : Nat} {f0 : List Int} {f1 : Int} (h : IsS103 w0 W g f0 f1) : ∀ k, W.heap.size ≤ k → k ≠ g := by
 obtain ⟨A0, c0, hb, hg, hr0⟩ := h
 exact Kd.freshB hb
theorem IsS103.kept {w0 W : World} {g : Nat} {f0 : List Int} {f1 : Int} {W1 : World} {S : Nat → Prop} (h : IsS103 w0 W g f0 f1) (hk : Kept W W1 S) (hne : ¬ S g) : IsS103 w0 W1 g f0 f1 := by
 obtain ⟨A0, c0, hb, hg, hr0⟩ := h
 exact ⟨A0, c0, blk_kept hb hk hne, hg, hr0⟩
theorem IsS103.below {w0 W : World} {g : Nat} {f0 : List Int} {f1 : Int} {W1 : World} (h : IsS103 w0 W g f0 f1) (hw : Below W.heap.size W W1) : IsS103 w0 W1 g f0 f1 := h.grown (grown_of_below hw none) (by simp)
theorem IsS103.alloc {w0 W : World} {g : Nat} {f0 : List Int} {f1 : Int} (h : IsS103 w0 W g f0 f1) (o : Obj) : IsS103 w0 (W.alloc o) g f0 f1 := h.below (below_alloc (Below.refl _ _) o)
theorem IsS103.drewN {w0 W : World} {g : Nat} {f0 : List Int} {f1 : Int} (h : IsS103 w0 W g f0 f1) (m : Nat) : IsS103 w0 (W.drewN m) g f0 f1 := h
theorem IsS103.drew {w0 W : World} {g : Nat} {f0 : List Int} {f1 : Int} (h : IsS103 w0 W g f0 f1) : IsS103 w0 W.drew g f0 f1 := h
theorem IsS103.at_ {w0 W : World} {g : Nat} {f0 : List Int} {f1 : Int} {w' : World} {m : Nat} (hq : W.drewN m = w') (h : IsS103 w0 W g f0 f1) : IsS103 w0 w' g f0 f1 := by subst hq; exact IsS103.drewN h m
theorem IsS103.apart {w0 W : World} {g : Nat} {f0 : List Int} {f1 : Int} {α : Type} {d : Kd α} {e : Nat} {base : Nat} {ok : Nat → Prop} {v : Value} {xs : List α} (h : IsS103 w0 W g f0 f1) (ho : d.R e W base ok v xs) (ht : ∀ q, q ∈ e :: d.E → q ≠ 103) : d.R e W base (fun k => ok k ∧ k ≠ g) v xs := by
 obtain ⟨A0, c0, hb, hg, hr0⟩ := h
 exact Kd.R_types ho hb ht
theorem IsS103.own_ne {w0 W : World} {g : Nat} {f0 : List Int} {f1 : Int} {α : Type} {d : Kd α} {e : Nat} {base : Nat} {ok : Nat → Prop} {v : Value} {xs : List α} (h : IsS103 w0 W g f0 f1) (ho : d.R e W base ok v xs) (ht : e ≠ 103) : some g ≠ v.ownBlock := by
 obtain ⟨A0, c0, hb, hg, hr0⟩ := h
 exact Kd.R_ne ho hb ht
theorem IsS103.apartS {w0 W : World} {g : Nat} {f0 : List Int} {f1 : Int} {α : Type} {d : Kd α} {e : Nat} {base : Nat} {ok : Nat → Prop} {v : Value} {xs : List α} (h : IsS103 w0 W g f0 f1) (ho : d.S e W base ok v xs) (ht : ∀ q, q ∈ e :: d.E → q ≠ 103) : d.S e W base (fun k => ok k ∧ k ≠ g) v xs := by
 obtain ⟨A0, c0, hb, hg, hr0⟩ := h
 exact Kd.S_types ho hb ht
theorem IsS103.own_neS {w0 W : World} {g : Nat} {f0 : List Int} {f1 : Int} {α : Type} {d : Kd α} {e : Nat} {base : Nat} {ok : Nat → Prop} {v : Value} {xs : List α} (h : IsS103 w0 W g f0 f1) (ho : d.S e W base ok v xs) (ht : e ≠ 103) : some g ≠ v.ownBlock := by
 obtain ⟨A0, c0, hb, hg, hr0⟩ := h
 exact Kd.S_ne ho hb ht
theorem IsS103.lt {w0 W : World} {g : Nat} {f0 : List Int} {f1 : Int} (h : IsS103 w0 W g f0 f1) : g < W.heap.size := by
 obtain ⟨A0, c0, hb, hg, hr0⟩ := h
 exact blk_lt hb
theorem IsS103.ge {w0 W : World} {g : Nat} {f0 : List Int} {f1 : Int} (h : IsS103 w0 W g f0 f1) : w0.heap.size ≤ g := by
 obtain ⟨A0, c0, hb, hg, hr0⟩ := h
 exact hg
theorem IsS103.ne_blk {w0 W : World} {g : Nat} {f0 : List Int} {f1 : Int} {a : Nat} {cs : Array Value} {t : TypeId} {fr : Nat × Nat} (h : IsS103 w0 W g f0 f1) (hb2 : W.heap[a]? = some (.cells cs t fr)) (ht : t ≠ 103) : g ≠ a := by
 obtain ⟨A0, c0, hb, hg, hr0⟩ := h
 rintro rfl
 rw [hb] at hb2
 injection hb2 with hb2
 injection hb2 with _ ht2
 exact ht ht2.symm
theorem IsS103.far {w0 W : World} {g : Nat} {f0 : List Int} {f1 : Int} {p : Addr} (h : IsS103 w0 W g f0 f1) (hne : g ≠ p.block) (u : Value) : IsS103 w0 (W.setCell p u) g f0 f1 := by
 obtain ⟨A0, c0, hb, hg, hr0⟩ := h
 exact ⟨A0, c0, blk_far hb hne u, hg, hr0⟩
theorem cellS103_0 {W : World} {g : Nat} {A0 : Option Addr} {c0 : Nat} {f0 : List Int} {f1 : Int} (h : W.heap[g]? = some (.cells #[.slice A0 f0.length c0, .int .i64 f1] 103 (0, 0))) : W.cell? ⟨g, 0, none⟩ = some (.slice A0 f0.length c0) := (blk_cell h 0).trans rfl
theorem cellS103_1 {W : World} {g : Nat} {A0 : Option Addr} {c0 : Nat} {f0 : List Int} {f1 : Int} (h : W.heap[g]? = some (.cells #[.slice A0 f0.length c0, .int .i64 f1] 103 (0, 0))) : W.cell? ⟨g, 1, none⟩ = some (.int .i64 f1) := (blk_cell h 1).trans rfl
theorem IsS103.set_1 {w0 W : World} {g : Nat} {f0 : List Int} {f1 : Int} (h : IsS103 w0 W g f0 f1) (x : Int) : IsS103 w0 (W.setCell ⟨g, 1, none⟩ (.int .i64 x)) g f0 x := by
 obtain ⟨A0, c0, hb, hg, hr0⟩ := h
 exact ⟨A0, c0, by simpa using blk_set hb 1 (.int .i64 x), hg, hr0⟩
def spec_l1Open.f (l0 : List Int) : Option (List Int × Int) := if (l0.length : Int) > 2000 then (if 2000 ≤ (l0.length : Int) then (some (l0.take 2000, 0)) else (none)) else (some (l0, 0))
theorem spec_l1Open.calls (A0 : Option Addr) (c0 : Nat) (l0 : List Int) (r1 : List Int) (r2 : Int) (w0 w : World) (hB : Below w0.heap.size w0 w) (hr0 : Kd.C (Kd.int .u8) w0 A0 l0.length l0) (hc0 : l0.length ≤ c0) (h : spec_l1Open.f l0 = some (r1, r2)) :
  Calls Try.prog 97 #[.slice A0 l0.length c0] w fun e w' => ∃ g_ : Nat, e = .returned (.pointer (some ⟨g_, 0, none⟩)) ∧ IsS103 w0 w' g_ r1 r2 ∧ Below w0.heap.size w0 w' ∧ Below w.heap.size w w' := by
 have hu103 := Try.underlying103
 have HR0 := am hr0
 have HC0 := am hc0
 clear hr0 hc0
 have HBW := am (Below.refl w.heap.size w)
 have HW0 := am hB.size
 have HB := am hB
 clear hB
 unfold spec_l1Open.f at h
 have H := h
 clear h
 by_cases c2 : (l0.length : Int) > 2000
 ·rw [if_pos c2] at H
  have c2b0 : decide (2000 < (l0.length : Int)) = true := decide_eq_true c2
  have c2b1 : decide (2000 < l0.length) = true := decide_eq_true (by omega)
  clear c2
  by_cases c3 : 2000 ≤ (l0.length : Int)
  ·rw [if_pos c3] at H
   have c3b0 := eq_true c3
   have c3b1 : decide (2000 ≤ (l0.length : Int)) = true := decide_eq_true c3
   clear c3
   simp only [Option.some.injEq, Prod.mk.injEq] at H
   obtain ⟨rfl, rfl⟩ := H
   obtain ⟨i04, hi04, _, hsz4, _⟩ := info_parts info5
   obtain ⟨hcut4, hA4, hC4⟩ := print_take_of (P := Try.prog) (Value.int .u8) 0 51 5 .i64 Try.underlying51 hi04 hsz4 A0 c0 l0 2000 (by omega) (oT) HC0.1
   have HR101 := am (Kd.C_of_reads (h1 := fun _ => rfl) (hA4 _ (Kd.reads_of_C HR0.1)))
   have HC101 := am hC4
   clear hA4 hC4 hi04 hsz4
   go_enter Try.func97, Try.ntmps97
   go_wp2_with (first | ((with_reducible refine gD 10 ?_); refine bX 10 #[.slice A0 (l0.take 2000).length c0, .int .i64 0] 103 ?_; intro gb102 hg w5 hbox hb; replace HB := bS pY95 hb; have BK102 := am (hbox); have GW102 := am (by rw [hg]; exact (below_size (by repeat (first | (with_reducible first | exact HBW.out | apply below_alloc | apply pw_below_drewN | apply below_drew1) | exact HBW.out))) : w.heap.size ≤ gb102); have GE102 := am (Nat.le_trans HW0.out (by rw [hg]; exact (below_size (by repeat (first | (with_reducible first | exact HBW.out | apply below_alloc | apply pw_below_drewN | apply below_drew1) | exact HBW.out))) : w.heap.size ≤ gb102) : w0.heap.size ≤ gb102); replace HBW := am (below_step HBW.out hb); clear hb hbox hg))
   go_ret
   exact ⟨_, rfl, (show IsS103 w0 _ gb102 (l0.take 2000) 0 from ⟨_, _, rB BK102.1, GE102.1, HR101.1⟩), by repeat (first | (with_reducible first | exact HB.1 | apply below_alloc | apply pw_below_drewN | apply below_drew1 | refine below_set ?_ GE102.1) | exact HB.1), by repeat (first | (with_reducible first | exact HBW.out | apply below_alloc | apply pw_below_drewN | apply below_drew1 | refine below_set ?_ GW102.out) | exact HBW.out)⟩
  ·rw [if_neg c3] at H
   exact absurd H (by simp)
 ·rw [if_neg c2] at H
  have c2b0 : decide (2000 < (l0.length : Int)) = false := decide_eq_false c2
  have c2b1 : decide (2000 < l0.length) = false := decide_eq_false (by omega)
  clear c2
  simp only [Option.some.injEq, Prod.mk.injEq] at H
  obtain ⟨rfl, rfl⟩ := H
  go_enter Try.func97, Try.ntmps97
  go_wp2_with (first | ((with_reducible refine gD 10 ?_); refine bX 10 #[.slice A0 l0.length c0, .int .i64 0] 103 ?_; intro gb103 hg w6 hbox hb; replace HB := bS pY95 hb; have BK103 := am (hbox); have GW103 := am (by rw [hg]; exact (below_size (by repeat (first | (with_reducible first | exact HBW.out | apply below_alloc | apply pw_below_drewN | apply below_drew1) | exact HBW.out))) : w.heap.size ≤ gb103); have GE103 := am (Nat.le_trans HW0.out (by rw [hg]; exact (below_size (by repeat (first | (with_reducible first | exact HBW.out | apply below_alloc | apply pw_below_drewN | apply below_drew1) | exact HBW.out))) : w.heap.size ≤ gb103) : w0.heap.size ≤ gb103); replace HBW := am (below_step HBW.out hb); clear hb hbox hg))
  go_ret
  exact ⟨_, rfl, (show IsS103 w0 _ gb103 l0 0 from ⟨_, _, rB BK103.1, GE103.1, HR0.1⟩), by repeat (first | (with_reducible first | exact HB.1 | apply below_alloc | apply pw_below_drewN | apply below_drew1 | refine below_set ?_ GE103.1) | exact HB.1), by repeat (first | (with_reducible first | exact HBW.out | apply below_alloc | apply pw_below_drewN | apply below_drew1 | refine below_set ?_ GW103.out) | exact HBW.out)⟩
def spec_l1Rd_pick.j0 : Nat → Int → Bool → List Int → Int → Option (Int × Int)
 | 0, _, _, _, _ => none
 | k + 1, x1, x24, x1000, x1001 => if x24 = true then (some (0, x1001)) else (if (wrap64 (x1001 - 1)) < (x1000.length : Int) then (if 0 ≤ (wrap64 (x1001 - 1)) then (if x1 = 0 then (none) else (some (Int.tmod (wrap64 (rd x1000 (wrap64 (x1001 - 1)))) x1, x1001))) else (none)) else (if (x1000.length : Int) = 0 then (none) else (if 0 ≤ (Int.tmod (wrap64 (x1001 - 1)) (x1000.length : Int)) then (if (Int.tmod (wrap64 (x1001 - 1)) (x1000.length : Int)) < (x1000.length : Int) then (if 0 ≤ (Int.tmod (wrap64 ((wrap64 ((wrap64 (x1001 - 1)) * 7)) + 3)) (x1000.length : Int)) then (if (Int.tmod (wrap64 ((wrap64 ((wrap64 (x1001 - 1)) * 7)) + 3)) (x1000.length : Int)) < (x1000.length : Int) then (if x1 = 0 then (none) else (some (Int.tmod (Go.bits .xor .i64 (wrap64 ((wrap64 ((wrap64 ((wrap64 ((wrap64 (rd x1000 (Int.tmod (wrap64 (x1001 - 1)) (x1000.length : Int)))) * 131)) + (wrap64 ((wrap64 (rd x1000 (Int.tmod (wrap64 ((wrap64 ((wrap64 (x1001 - 1)) * 7)) + 3)) (x1000.length : Int)))) * 1117)))) + (wrap64 ((wrap64 (x1001 - 1)) * 29)))) + (wrap64 ((wrap64 (Int.tdiv (wrap64 (x1001 - 1)) (x1000.length : Int))) * 53)))) (wrap64 (Int.tdiv (wrap64 ((wrap64 ((wrap64 ((wrap64 ((wrap64 (rd x1000 (Int.tmod (wrap64 (x1001 - 1)) (x1000.length : Int)))) * 131)) + (wrap64 ((wrap64 (rd x1000 (Int.tmod (wrap64 ((wrap64 ((wrap64 (x1001 - 1)) * 7)) + 3)) (x1000.length : Int)))) * 1117)))) + (wrap64 ((wrap64 (x1001 - 1)) * 29)))) + (wrap64 ((wrap64 (Int.tdiv (wrap64 (x1001 - 1)) (x1000.length : Int))) * 53)))) 64))) x1, x1001))) else (none)) else (none)) else (none)) else (none))))
def spec_l1Rd_pick.f (k : Nat) (s0_0 : List Int) (s0_1 : Int) (a1 : Int) : Option (Int × Int) := if a1 < 1 then (spec_l1Rd_pick.j0 k a1 true s0_0 (wrap64 (s0_1 + 1))) else (spec_l1Rd_pick.j0 k a1 ((s0_0.length : Int) == 0) s0_0 (wrap64 (s0_1 + 1)))
theorem spec_l1Rd_pick.calls (k : Nat) (g : Nat) (s0_0 : List Int) (s0_1 : Int) (a1 : Int) (r1 : Int) (r2 : Int) (w0 w : World) (hI : IsS103 w0 w g s0_0 s0_1) (hB : Below w0.heap.size w0 w) (h : spec_l1Rd_pick.f k s0_0 s0_1 a1 = some (r1, r2)) :
  Calls Try.prog 100 #[.pointer (some ⟨g, 0, none⟩), .int .i64 a1] w fun e w' => e = .returned (.int .i64 r1) ∧ IsS103 w0 w' g s0_0 r2 ∧ Below w0.heap.size w0 w' ∧ KeepBut w w' g none := by
 have HI0 := am hI
 have HK := am (KeepBut.refl w g none)
 have HL := am hB.size
 clear hI
 have HW0 := am hB.size
 have HB := am hB
 clear hB
 unfold spec_l1Rd_pick.f at h
 have H := h
 clear h
 have HC3 := am H
 clear H
 obtain ⟨ASz4_0, cSz4_0, HGz4, hgz4, HSz4_0⟩ := HI0.out
 have hcz4_0 := cellS103_0 HGz4
 have hcz4_1 := cellS103_1 HGz4
 have hfz4_1 := blk_frozen HGz4 1
 clear HGz4 hgz4
 go_enter Try.func100, Try.ntmps100
 go_upto_region 2 with ((fail))
 repeat (go_quiet (fail); go_upto_region 2 with (fail))
 go_cut [24] (fun v24 wc => ∃ (kq : Nat) (x24_2 : Bool), v24 = .bool x24_2 ∧ Aside0 (spec_l1Rd_pick.j0 kq a1 x24_2 s0_0 (wrap64 (s0_1 + 1)) = some (r1, r2)) ∧ Aside0 (kq ≤ k) ∧ Aside0 (IsS103 w0 wc g s0_0 (wrap64 (s0_1 + 1))) ∧ Aside0 (KeepBut w wc g none) ∧ Aside0 (Below w0.heap.size w0 wc))
 case first =>
  have H := HC3.1
  clear HC3
  by_cases c5 : a1 < 1
  ·rw [if_pos c5] at H
   have c5b0 : decide (a1 < 1) = true := decide_eq_true c5
   clear c5
   (first | rw [c5b0] | (simp only [i64_w, i32_w]; rw [c5b0]) | skip)
   have H' := am H
   clear H
   go_wp2
   repeat (go_quiet (fail); try go_wp2)
   go_meet
   case rel => exact ⟨_, (true), (pY136), H', ⟨by first | omega | exact Nat.le_refl _⟩, ⟨pY92⟩, ⟨pY93⟩, ⟨pY88⟩⟩
  ·rw [if_neg c5] at H
   have c5b0 : decide (a1 < 1) = false := decide_eq_false c5
   clear c5
   (first | rw [c5b0] | (simp only [i64_w, i32_w]; rw [c5b0]) | skip)
   have H' := am H
   clear H
   obtain ⟨ASz6_0, cSz6_0, HGz6, hgz6, HSz6_0⟩ := HI0.out
   have hcz6_0 := cellS103_0 HGz6
   have hcz6_1 := cellS103_1 HGz6
   have hfz6_1 := blk_frozen HGz6 1
   clear HGz6 hgz6
   go_wp2
   repeat (go_quiet (fail); try go_wp2)
   go_meet
   case rel => exact ⟨_, (((s0_0.length : Int) == 0)), (pY136), H', ⟨by first | omega | exact Nat.le_refl _⟩, ⟨pY92⟩, ⟨pY93⟩, ⟨pY88⟩⟩
 case rest =>
  clear HC3
  try clear hcz4_0 hcz4_1 hfz4_1
  obtain ⟨kq, x24_2, rfl, HA, HJ2, HI0, HK, HB⟩ := hcut
  cases kq with
  | zero => exact absurd HA.out (by simp [spec_l1Rd_pick.j0])
  | succ kj2 =>
   have H := HA.out
   clear HA
   simp only [spec_l1Rd_pick.j0] at H
   by_cases c7 : x24_2 = true
   ·subst c7
    replace H := iT H
    simp only [Option.some.injEq, Prod.mk.injEq] at H
    obtain ⟨rfl, rfl⟩ := H
    go_wp2
    repeat (go_quiet (fail); try go_wp2)
    go_ret
    exact ⟨eR, pY92, pY88, pY93⟩
   ·replace c7 := Bool.eq_false_iff.mpr c7
    subst c7
    replace H := iF H
    by_cases c8 : (wrap64 ((wrap64 (s0_1 + 1)) - 1)) < (s0_0.length : Int)
    ·rw [if_pos c8] at H
     have c8b0 : decide ((wrap64 ((wrap64 (s0_1 + 1)) - 1)) < (s0_0.length : Int)) = true := decide_eq_true c8
     clear c8
     obtain ⟨ji9, hji9⟩ : ∃ j_ : Int, (wrap64 ((wrap64 (s0_1 + 1)) - 1)) = j_ := ⟨_, rfl⟩
     replace H : (if 0 ≤ (ji9) then (if a1 = 0 then (none) else (some (Int.tmod (wrap64 (rd s0_0 (ji9))) a1, (wrap64 (s0_1 + 1))))) else (none)) = some (r1, r2) := by first | (rw [hji9] at H; exact H) | (simp only [hji9] at H ⊢; exact H)
     (try rw [hji9] at c8b0)
     have hji9w : (IntKind.i64.wrap ((wrap64 (s0_1 + 1)) - 1)) = ji9 := (i64_w _).trans hji9
     by_cases c10 : 0 ≤ (ji9)
     ·rw [if_pos c10] at H
      have c10b0 : decide (0 ≤ (ji9)) = true := decide_eq_true c10
      clear c10
      by_cases c11 : a1 = 0
      ·rw [if_pos c11] at H
       exact absurd H (by simp)
      ·rw [if_neg c11] at H
       have c11b0 : (a1 == 0) = false := beq_eq_false_iff_ne.mpr c11
       have c11b1 : (a1 != 0) = true := bne_iff_ne.mpr c11
       simp only [Option.some.injEq, Prod.mk.injEq] at H
       obtain ⟨rfl, rfl⟩ := H
       obtain ⟨ASz12_0, cSz12_0, HGz12, hgz12, HSz12_0⟩ := HI0.out
       have hcz12_0 := cellS103_0 HGz12
       have hcz12_1 := cellS103_1 HGz12
       have hfz12_1 := blk_frozen HGz12 1
       clear HGz12 hgz12
       have p101 : 0 ≤ ((ji9) : Int) := oT
       have q101 : (ji9) < (s0_0.length : Int) := oT
       obtain ⟨ad101, e101, hx101_0⟩ := Kd.at_int HSz12_0 (ji9) p101 q101
       cases e101
       replace hx101_0 := pw_cell_below HB.1 hx101_0
       replace p101 := eq_true p101
       replace q101 := eq_true q101
       go_wp2
       repeat (go_quiet (fail); try go_wp2)
       go_ret
       exact ⟨by first | rfl | (simp [errW_none, errW_some] <;> rfl) | (simp only [← hji9]; first | rfl | (simp [errW_none, errW_some] <;> rfl)) | (simp [*, errW_none, errW_some] <;> rfl), pY92, pY88, pY93⟩
     ·rw [if_neg c10] at H
      exact absurd H (by simp)
    ·rw [if_neg c8] at H
     have c8b0 : decide ((wrap64 ((wrap64 (s0_1 + 1)) - 1)) < (s0_0.length : Int)) = false := decide_eq_false c8
     clear c8
     by_cases c13 : (s0_0.length : Int) = 0
     ·rw [if_pos c13] at H
      exact absurd H (by simp)
     ·rw [if_neg c13] at H
      have c13b0 : ((s0_0.length : Int) == 0) = false := beq_eq_false_iff_ne.mpr c13
      have c13b1 : ((s0_0.length : Int) != 0) = true := bne_iff_ne.mpr c13
      have c13b2 : ¬ (s0_0 = []) := fun h_ => c13 (by rw [h_]; rfl)
      obtain ⟨ji14, hji14⟩ : ∃ j_ : Int, (Int.tmod (wrap64 ((wrap64 (s0_1 + 1)) - 1)) (s0_0.length : Int)) = j_ := ⟨_, rfl⟩
      replace H : (if 0 ≤ (ji14) then (if (ji14) < (s0_0.length : Int) then (if 0 ≤ (Int.tmod (wrap64 ((wrap64 ((wrap64 ((wrap64 (s0_1 + 1)) - 1)) * 7)) + 3)) (s0_0.length : Int)) then (if (Int.tmod (wrap64 ((wrap64 ((wrap64 ((wrap64 (s0_1 + 1)) - 1)) * 7)) + 3)) (s0_0.length : Int)) < (s0_0.length : Int) then (if a1 = 0 then (none) else (some (Int.tmod (Go.bits .xor .i64 (wrap64 ((wrap64 ((wrap64 ((wrap64 ((wrap64 (rd s0_0 (ji14))) * 131)) + (wrap64 ((wrap64 (rd s0_0 (Int.tmod (wrap64 ((wrap64 ((wrap64 ((wrap64 (s0_1 + 1)) - 1)) * 7)) + 3)) (s0_0.length : Int)))) * 1117)))) + (wrap64 ((wrap64 ((wrap64 (s0_1 + 1)) - 1)) * 29)))) + (wrap64 ((wrap64 (Int.tdiv (wrap64 ((wrap64 (s0_1 + 1)) - 1)) (s0_0.length : Int))) * 53)))) (wrap64 (Int.tdiv (wrap64 ((wrap64 ((wrap64 ((wrap64 ((wrap64 (rd s0_0 (ji14))) * 131)) + (wrap64 ((wrap64 (rd s0_0 (Int.tmod (wrap64 ((wrap64 ((wrap64 ((wrap64 (s0_1 + 1)) - 1)) * 7)) + 3)) (s0_0.length : Int)))) * 1117)))) + (wrap64 ((wrap64 ((wrap64 (s0_1 + 1)) - 1)) * 29)))) + (wrap64 ((wrap64 (Int.tdiv (wrap64 ((wrap64 (s0_1 + 1)) - 1)) (s0_0.length : Int))) * 53)))) 64))) a1, (wrap64 (s0_1 + 1))))) else (none)) else (none)) else (none)) else (none)) = some (r1, r2) := by first | (rw [hji14] at H; exact H) | (simp only [hji14] at H ⊢; exact H)
      by_cases c15 : 0 ≤ (ji14)
      ·rw [if_pos c15] at H
       have c15b0 : decide (0 ≤ (ji14)) = true := decide_eq_true c15
       clear c15
       by_cases c16 : (ji14) < (s0_0.length : Int)
       ·rw [if_pos c16] at H
        have c16b0 : decide ((ji14) < (s0_0.length : Int)) = true := decide_eq_true c16
        clear c16
        obtain ⟨ji17, hji17⟩ : ∃ j_ : Int, (Int.tmod (wrap64 ((wrap64 ((wrap64 ((wrap64 (s0_1 + 1)) - 1)) * 7)) + 3)) (s0_0.length : Int)) = j_ := ⟨_, rfl⟩
        replace H : (if 0 ≤ (ji17) then (if (ji17) < (s0_0.length : Int) then (if a1 = 0 then (none) else (some (Int.tmod (Go.bits .xor .i64 (wrap64 ((wrap64 ((wrap64 ((wrap64 ((wrap64 (rd s0_0 (ji14))) * 131)) + (wrap64 ((wrap64 (rd s0_0 (ji17))) * 1117)))) + (wrap64 ((wrap64 ((wrap64 (s0_1 + 1)) - 1)) * 29)))) + (wrap64 ((wrap64 (Int.tdiv (wrap64 ((wrap64 (s0_1 + 1)) - 1)) (s0_0.length : Int))) * 53)))) (wrap64 (Int.tdiv (wrap64 ((wrap64 ((wrap64 ((wrap64 ((wrap64 (rd s0_0 (ji14))) * 131)) + (wrap64 ((wrap64 (rd s0_0 (ji17))) * 1117)))) + (wrap64 ((wrap64 ((wrap64 (s0_1 + 1)) - 1)) * 29)))) + (wrap64 ((wrap64 (Int.tdiv (wrap64 ((wrap64 (s0_1 + 1)) - 1)) (s0_0.length : Int))) * 53)))) 64))) a1, (wrap64 (s0_1 + 1))))) else (none)) else (none)) = some (r1, r2) := by first | (rw [hji17] at H; exact H) | (simp only [hji17] at H ⊢; exact H)
        by_cases c18 : 0 ≤ (ji17)
        ·rw [if_pos c18] at H
         have c18b0 : decide (0 ≤ (ji17)) = true := decide_eq_true c18
         clear c18
         by_cases c19 : (ji17) < (s0_0.length : Int)
         ·rw [if_pos c19] at H
          have c19b0 : decide ((ji17) < (s0_0.length : Int)) = true := decide_eq_true c19
          clear c19
          by_cases c20 : a1 = 0
          ·rw [if_pos c20] at H
           exact absurd H (by simp)
          ·rw [if_neg c20] at H
           have c20b0 : (a1 == 0) = false := beq_eq_false_iff_ne.mpr c20
           have c20b1 : (a1 != 0) = true := bne_iff_ne.mpr c20
           simp only [Option.some.injEq, Prod.mk.injEq] at H
           obtain ⟨rfl, rfl⟩ := H
           obtain ⟨ASz21_0, cSz21_0, HGz21, hgz21, HSz21_0⟩ := HI0.out
           have hcz21_0 := cellS103_0 HGz21
           have hcz21_1 := cellS103_1 HGz21
           have hfz21_1 := blk_frozen HGz21 1
           clear HGz21 hgz21
           have p102 : 0 ≤ ((ji14) : Int) := oT
           have q102 : (ji14) < (s0_0.length : Int) := oT
           obtain ⟨ad102, e102, hx102_0⟩ := Kd.at_int HSz21_0 (ji14) p102 q102
           cases e102
           replace hx102_0 := pw_cell_below HB.1 hx102_0
           replace p102 := eq_true p102
           replace q102 := eq_true q102
           have p103 : 0 ≤ ((ji17) : Int) := oT
           have q103 : (ji17) < (s0_0.length : Int) := oT
           obtain ⟨ad103, e103, hx103_0⟩ := Kd.at_int HSz21_0 (ji17) p103 q103
           obtain rfl : ad102 = ad103 := (by injection e103)
           replace hx103_0 := pw_cell_below HB.1 hx103_0
           replace p103 := eq_true p103
           replace q103 := eq_true q103
           go_wp2
           repeat (go_quiet (fail); try go_wp2)
           go_ret
           exact ⟨by first | rfl | (simp [errW_none, errW_some] <;> rfl) | (simp only [← hji14, ← hji17]; first | rfl | (simp [errW_none, errW_some] <;> rfl)) | (simp [*, errW_none, errW_some] <;> rfl), pY92, pY88, pY93⟩
         ·rw [if_neg c19] at H
          exact absurd H (by simp)
        ·rw [if_neg c18] at H
         exact absurd H (by simp)
       ·rw [if_neg c16] at H
        exact absurd H (by simp)
      ·rw [if_neg c15] at H
       exact absurd H (by simp)
theorem foot_inner {w W : World} {g n : Nat} {ad : Addr} {xs : List S56} (hf : ∀ W_, KeepBut w W_ g none → Kd.C k56 W_ (some ad) n xs) (hk : KeepBut w W g none) (i : Int) (h0 : 0 ≤ i) (h1 : i < n) {A2 : Option Addr} {c2 : Nat}
    (hx : W.cell? ⟨(ad.add (i.toNat * 3)).block, (ad.add (i.toNat * 3)).off + 2, none⟩ = some (.slice A2 (rd_T56 xs i).f2.length c2)) : ∀ W_, KeepBut w W_ g none → Kd.C Kd.string W_ A2 (rd_T56 xs i).f2.length (rd_T56 xs i).f2 := by
  intro W_ hk_
  have hne : (⟨(ad.add (i.toNat * 3)).block, (ad.add (i.toNat * 3)).off + 2, none⟩ : Addr).block ≠ g := by
    show (ad.add (i.toNat * 3)).block ≠ g
    rw [add_block]
    exact Kd.foot_ne hf (by omega) (by decide)
  obtain ⟨a, _, _, B, b, e, _, _, hw, _⟩ := at_T56 (hf w (KeepBut.refl w g none)) i h0 h1
  cases e
  have e1 := (keep_cell hk hw hne).symm.trans hx
  obtain ⟨a, _, _, B2, b2, e, _, _, hw2, _, _, _, hc⟩ := at_T56 (hf W_ hk_) i h0 h1
  cases e
  have e2 := (keep_cell hk_ hw hne).symm.trans hw2
  injection e1 with e1
  injection e1 with e1 _ _
  injection e2 with e2
  injection e2 with e2 _ _
  rw [← e1, e2]
  exact hc
theorem foot_far {w : World} {g n : Nat} {A : Option Addr} {l : List ByteArray} (h : ∀ W_, KeepBut w W_ g none → Kd.C Kd.string W_ A n l) : ∀ ad, A = some ad → 0 < n → ad.block ≠ g := fun ad e hn => by
  subst e
  exact Kd.foot_ne h hn (by decide)
def spec_l1Rd_of.f (k : Nat) (s0_0 : List Int) (s0_1 : Int) (l1 : List ByteArray) : Option (ByteArray × Int) := (spec_l1Rd_pick.f k s0_0 s0_1 (l1.length : Int)).bind fun bt101 => (if 0 ≤ bt101.1 then (if bt101.1 < (l1.length : Int) then (some (rdOf ByteArray.empty l1 bt101.1, bt101.2)) else (none)) else (none))
theorem spec_l1Rd_of.calls (k : Nat) (g : Nat) (s0_0 : List Int) (s0_1 : Int) (A1 : Option Addr) (c1 : Nat) (l1 : List ByteArray) (r1 : ByteArray) (r2 : Int) (w0 w : World) (hI : IsS103 w0 w g s0_0 s0_1) (hB : Below w0.heap.size w0 w) (hr1 : Kd.C Kd.string w A1 l1.length l1) (hc1 : l1.length ≤ c1) (hf1 : ∀ ad, A1 = some ad → 0 < l1.length → ad.block ≠ g) (h : spec_l1Rd_of.f k s0_0 s0_1 l1 = some (r1, r2)) :
  Calls Try.prog 101 #[.pointer (some ⟨g, 0, none⟩), .slice A1 l1.length c1] w fun e w' => e = .returned (.string r1) ∧ IsS103 w0 w' g s0_0 r2 ∧ Below w0.heap.size w0 w' ∧ KeepBut w w' g none := by
 have HR1 := am hr1
 have HC1 := am hc1
 clear hr1 hc1
 have HI0 := am hI
 have HK := am (KeepBut.refl w g none)
 have HL := am hB.size
 clear hI
 have HW0 := am hB.size
 have HB := am hB
 clear hB
 unfold spec_l1Rd_of.f at h
 have H := h
 clear h
 obtain ⟨⟨t101, t102⟩, A3, H⟩ := bd H
 dsimp only at H
 obtain ⟨c4b0, H⟩ := cN H
 obtain ⟨c5b0, H⟩ := cN H
 simp only [Option.some.injEq, Prod.mk.injEq] at H
 obtain ⟨rfl, rfl⟩ := H
 go_enter Try.func101, Try.ntmps101
 go_wp2_with (first | ((with_reducible refine gC 100 ?_); refine cQ (some 9) Try.func100 (spec_l1Rd_pick.calls k g s0_0 s0_1 (l1.length : Int) t101 t102 w0 _ ((pY92)) ((pY88)) A3.out) ?_; rintro w6 ⟨hi, hb, hk⟩; replace HK := am (KeepBut.trans (pY93) hk (.inl rfl)); replace HB := am (hb); replace HI0 := am (hi); (try clear hb); (try clear hk); (try clear hi); have p103 : 0 ≤ (t101 : Int) := oT; have q103 : t101 < (l1.length : Int) := oT; obtain ⟨ad103, e103, hx103_0⟩ := Kd.at_string HR1.1 t101 p103 q103; cases e103; replace hx103_0 := keep_cell HK.out hx103_0 (by first | (rw [add_block]; exact hf1 _ rfl (by omega)) | exact hf1 _ rfl (by omega) | exact hf1 ad103 rfl (by omega)); replace p103 := eq_true p103; replace q103 := eq_true q103))
 go_ret
 exact ⟨eR, pY92, pY88, pY93⟩
def spec_l5Some.l0 : Nat → List ByteArray → Int → List ByteArray → Int → List Int → Int → Option (List ByteArray × Int)
 | 0, _, _, _, _, _, _ => none
 | k + 1, x1, x2, x7, x8, x1000, x1001 => if x8 < (x1.length : Int) then ((spec_l1Rd_pick.f k x1000 x1001 x2).bind fun bt104 => (if bt104.1 = 0 then (if 0 ≤ x8 then (if x7.length < 8796093022208 then (spec_l5Some.l0 k x1 x2 (x7 ++ [rdOf ByteArray.empty x1 x8]) (wrap64 (x8 + 1)) x1000 bt104.2) else (none)) else (none)) else (spec_l5Some.l0 k x1 x2 x7 (wrap64 (x8 + 1)) x1000 bt104.2))) else (some (x7, x1001))
def spec_l5Some.f (k : Nat) (s0_0 : List Int) (s0_1 : Int) (l1 : List ByteArray) (a2 : Int) : Option (List ByteArray × Int) := spec_l5Some.l0 k l1 a2 (([] : List ByteArray)) 0 s0_0 s0_1
theorem spec_l5Some.calls (k : Nat) (g : Nat) (s0_0 : List Int) (s0_1 : Int) (A1 : Option Addr) (c1 : Nat) (l1 : List ByteArray) (a2 : Int) (r1 : List ByteArray) (r2 : Int) (w0 w : World) (hI : IsS103 w0 w g s0_0 s0_1) (hB : Below w0.heap.size w0 w) (hr1 : Kd.C Kd.string w A1 l1.length l1) (hc1 : l1.length ≤ c1) (hf1 : ∀ ad, A1 = some ad → 0 < l1.length → ad.block ≠ g) (h : spec_l5Some.f k s0_0 s0_1 l1 a2 = some (r1, r2)) :
  Calls Try.prog 109 #[.pointer (some ⟨g, 0, none⟩), .slice A1 l1.length c1, .int .i64 a2] w fun e w' => ∃ v0_ : Value, e = .returned (v0_) ∧ Kd.R Kd.string 9 w' w.heap.size (fun _ => True) v0_ r1 ∧ IsS103 w0 w' g s0_0 r2 ∧ Below w0.heap.size w0 w' ∧ KeepBut w w' g none := by
 have HR1 := am hr1
 have HC1 := am hc1
 clear hr1 hc1
 have HI0 := am hI
 have HK := am (KeepBut.refl w g none)
 have HL := am hB.size
 clear hI
 have HW0 := am hB.size
 have HB := am hB
 clear hB
 unfold spec_l5Some.f at h
 have H := h
 clear h
 obtain ⟨y101, Ny101⟩ := yv (([] : List ByteArray)); first | replace H := bW Ny101 H | rw [← Ny101.1] at H
 have H' := am H
 clear H
 go_enter Try.func109, Try.ntmps109
 go_wp2_with (first | ((with_reducible refine gate_dst (N := 9) rfl ?_); refine Kd.R_lit Kd.string _ 9 ?hg (N := 9) ?hd (xs := ([] : List ByteArray)) (inner := []) (ok := fun _ => True) (okp := fun _ => True) ?hr ?hp (fun _ hk => hk) trivial (Below.refl _ _) (Nat.le_refl _) (by simp) ?_; (case hd => rfl); (case hg => rfl); (case hr => first | (go_simp; done) | (go_simp; rfl)); (case hp => exact (Reps.none _ _)); intro v102 w4 ho5 hb hg_ hnew_; clear hg_ hnew_; (first | rw [← Ny101.out] at ho5 | (simp only [Int.reduceToNat] at ho5; rw [← Ny101.out] at ho5)); have HO103 := am (Kd.R_lower ho5 (keep_size (w := w) (g := g) (row := none) (pY93))); replace HK := am (KeepBut.trans (pY93) (KeepBut.of_below hb g none) (.inl rfl)); replace HB := bS pY88 hb; replace HI0 := am (IsS103.below (pY92) hb); clear hb ho5))
 go_loopg [7, 8] k (fun kq v7 v8 w' => ∃ (x7_1 : List ByteArray) (x8_1 : Int) (x1001_1 : Int), v8 = .int .i64 x8_1 ∧ Aside0 (spec_l5Some.l0 kq l1 a2 x7_1 x8_1 s0_0 x1001_1 = some (r1, r2)) ∧ Aside0 (kq ≤ k) ∧ Aside0 (Kd.R Kd.string 9 w' w.heap.size (fun _ => True) v7 x7_1) ∧ Aside0 (IsS103 w0 w' g s0_0 x1001_1) ∧ Aside0 (KeepBut w w' g none) ∧ Aside0 (Below w0.heap.size w0 w'))
 case atStart => exact ⟨(y101), (0), (s0_1), (pY136), H', ⟨Nat.le_refl _⟩, ⟨rR HO103.1⟩, ⟨pY92⟩, ⟨pY93⟩, ⟨pY88⟩⟩
 case round =>
  clear H'
  try clear c1
  obtain ⟨x7_1, x8_1, x1001_1, rfl, HA, HK1, HO_7, HI0, HK, HB⟩ := hrel
  cases gk with
  | zero => exact absurd HA.out (by simp [spec_l5Some.l0])
  | succ k1 =>
   have H := HA.out
   clear HA
   simp only [spec_l5Some.l0] at H
   refine ic H ?_ ?_ <;> clear H <;> intro c6b0 H
   ·obtain ⟨⟨t104, t105⟩, A7, H⟩ := bd H
    dsimp only at H
    by_cases c8 : t104 = 0
    ·rw [if_pos c8] at H
     have c8b0 : (t104 == 0) = true := beq_iff_eq.mpr c8
     have c8b1 : (t104 != 0) = false := bne_eq_false_iff_eq.mpr c8
     clear c8
     obtain ⟨c9b0, H⟩ := cN H
     by_cases c10 : x7_1.length < 8796093022208
     ·rw [if_pos c10] at H
      have LMc10 := am c10
      clear c10
      obtain ⟨y107, Ny107⟩ := yv (x7_1 ++ [rdOf ByteArray.empty l1 x8_1]); first | replace H := bW Ny107 H | rw [← Ny107.1] at H
      have H' := am H
      clear H
      go_wp2_with (first | ((with_reducible refine gC 100 ?_); refine cQ (some 18) Try.func100 (spec_l1Rd_pick.calls k1 g s0_0 x1001_1 a2 t104 t105 w0 _ ((pY92)) ((pY88)) A7.out) ?_; rintro w11 ⟨hi, hb, hk⟩; replace HO_7 := am (Kd.R_mono (Kd.R_keep (IsS103.apart (show IsS103 w0 _ g s0_0 x1001_1 from pY92) (rR HO_7.1) (by decide)) hk (fun _ h => h.2)) (fun _ h => h.1)); replace HK := am (KeepBut.trans (pY93) hk (.inl rfl)); replace HB := am (hb); replace HI0 := am (hi); (try clear hb); (try clear hk); (try clear hi); have p106 : 0 ≤ (x8_1 : Int) := oT; have q106 : x8_1 < (l1.length : Int) := oT; obtain ⟨ad106, e106, hx106_0⟩ := Kd.at_string HR1.1 x8_1 p106 q106; cases e106; replace hx106_0 := keep_cell HK.out hx106_0 (by first | (rw [add_block]; exact hf1 _ rfl (by omega)) | exact hf1 _ rfl (by omega) | exact hf1 ad106 rfl (by omega)); replace p106 := eq_true p106; replace q106 := eq_true q106) | ((with_reducible refine gate_builtin (b := .append) (xs := #[.tmp 20, .tmp 25]) rfl ?_); at_builtin; refine Kd.R_append Kd.string w.heap.size rfl (.tmp 20) (.tmp 25) 23 9 (.string ⟨#[]⟩) 16 rfl Try.underlying23 info9 rfl (by decide) (by omega) u7 x7_1 (rdOf ByteArray.empty l1 x8_1) [.string (rdOf ByteArray.empty l1 x8_1)] (fun _ => True) (fun _ => False) rfl rfl ?aP (fun _ hk => hk.elim) ?aF ?aO (Below.refl _ _) ?aS ?aL ?_; (case aP => exact rfl); (case aF => exact (fun _ _ => trivial)); (case aO => exact (rR HO_7.1)); (case aS => exact (keep_size (w := w) (g := g) (row := none) (pY93))); (case aL => have := LMc10.out; omega); intro v108 w12 ho hb hg hat; rw [← Ny107.out] at ho; replace HB := am (below_weaken (pY88) HL.out hb); replace HI0 := am (IsS103.grown (pY92) hg (IsS103.own_ne HI0.out HO_7.1 (by decide))); replace HK := am (KeepBut.trans (pY93) (KeepBut.of_grown hg g) (Kd.R_base2 HO_7.1)); have HO109 := am (ho); clear HO_7; clear ho hb hg hat))
      go_roundg k1
      case measure => have := HK1.out; omega
      case rel => exact ⟨(y107), (wrap64 (x8_1 + 1)), (t105), (pY136), H', ⟨by have := HK1.out; omega⟩, ⟨rR HO109.1⟩, ⟨pY92⟩, ⟨pY93⟩, ⟨pY88⟩⟩
     ·rw [if_neg c10] at H
      exact absurd H (by simp)
    ·rw [if_neg c8] at H
     have c8b0 : (t104 == 0) = false := beq_eq_false_iff_ne.mpr c8
     have c8b1 : (t104 != 0) = true := bne_iff_ne.mpr c8
     have H' := am H
     clear H
     go_wp2_with (first | ((with_reducible refine gC 100 ?_); refine cQ (some 18) Try.func100 (spec_l1Rd_pick.calls k1 g s0_0 x1001_1 a2 t104 t105 w0 _ ((pY92)) ((pY88)) A7.out) ?_; rintro w13 ⟨hi, hb, hk⟩; replace HO_7 := am (Kd.R_mono (Kd.R_keep (IsS103.apart (show IsS103 w0 _ g s0_0 x1001_1 from pY92) (rR HO_7.1) (by decide)) hk (fun _ h => h.2)) (fun _ h => h.1)); replace HK := am (KeepBut.trans (pY93) hk (.inl rfl)); replace HB := am (hb); replace HI0 := am (hi); (try clear hb); (try clear hk); (try clear hi)))
     go_roundg k1
     case measure => have := HK1.out; omega
     case rel => exact ⟨(x7_1), (wrap64 (x8_1 + 1)), (t105), (pY136), H', ⟨by have := HK1.out; omega⟩, ⟨rR HO_7.1⟩, ⟨pY92⟩, ⟨pY93⟩, ⟨pY88⟩⟩
   ·simp only [Option.some.injEq, Prod.mk.injEq] at H
    obtain ⟨rfl, rfl⟩ := H
    go_wp2
    go_ret
    exact ⟨_, eR, rR HO_7.1, pY92, pY88, pY93⟩
def spec_l5Names.f  : Option (List ByteArray) := some (([(⟨#[97, 108, 101]⟩ : ByteArray), (⟨#[98]⟩ : ByteArray), (⟨#[99, 45, 99]⟩ : ByteArray), (⟨#[100, 97, 114, 107]⟩ : ByteArray), (⟨#[120, 57]⟩ : ByteArray)] : List ByteArray))
theorem spec_l5Names.calls  (r : List ByteArray) (w : World) (h : spec_l5Names.f  = some r) :
  Calls Try.prog 132 #[] w fun e w' => ∃ v0_ : Value, e = .returned (v0_) ∧ Kd.R Kd.string 9 w' w.heap.size (fun _ => True) v0_ r ∧ Below w.heap.size w w' := by
 have HB := am (Below.refl w.heap.size w)
 unfold spec_l5Names.f at h
 have H := h
 clear h
 obtain ⟨y101, Ny101⟩ := yv (([(⟨#[97, 108, 101]⟩ : ByteArray), (⟨#[98]⟩ : ByteArray), (⟨#[99, 45, 99]⟩ : ByteArray), (⟨#[100, 97, 114, 107]⟩ : ByteArray), (⟨#[120, 57]⟩ : ByteArray)] : List ByteArray)); first | replace H := bW Ny101 H | rw [← Ny101.1] at H
 obtain rfl := Option.some.inj H
 go_enter Try.func132, Try.ntmps132
 go_wp2_with (first | ((with_reducible refine gate_dst (N := 1) rfl ?_); refine Kd.R_lit Kd.string _ 9 ?hg (N := 1) ?hd (xs := ([(⟨#[97, 108, 101]⟩ : ByteArray), (⟨#[98]⟩ : ByteArray), (⟨#[99, 45, 99]⟩ : ByteArray), (⟨#[100, 97, 114, 107]⟩ : ByteArray), (⟨#[120, 57]⟩ : ByteArray)] : List ByteArray)) (inner := [.string (⟨#[97, 108, 101]⟩ : ByteArray), .string (⟨#[98]⟩ : ByteArray), .string (⟨#[99, 45, 99]⟩ : ByteArray), .string (⟨#[100, 97, 114, 107]⟩ : ByteArray), .string (⟨#[120, 57]⟩ : ByteArray)]) (ok := fun _ => True) (okp := fun _ => True) ?hr ?hp (fun _ hk => hk) trivial (Below.refl _ _) (Nat.le_refl _) (by simp) ?_; (case hd => rfl); (case hg => rfl); (case hr => first | (go_simp; done) | (go_simp; rfl)); (case hp => exact (Reps.one (show Kd.M Kd.string _ _ _ (⟨#[97, 108, 101]⟩ : ByteArray) [.string (⟨#[97, 108, 101]⟩ : ByteArray)] from rfl) (Reps.one (show Kd.M Kd.string _ _ _ (⟨#[98]⟩ : ByteArray) [.string (⟨#[98]⟩ : ByteArray)] from rfl) (Reps.one (show Kd.M Kd.string _ _ _ (⟨#[99, 45, 99]⟩ : ByteArray) [.string (⟨#[99, 45, 99]⟩ : ByteArray)] from rfl) (Reps.one (show Kd.M Kd.string _ _ _ (⟨#[100, 97, 114, 107]⟩ : ByteArray) [.string (⟨#[100, 97, 114, 107]⟩ : ByteArray)] from rfl) (Reps.one (show Kd.M Kd.string _ _ _ (⟨#[120, 57]⟩ : ByteArray) [.string (⟨#[120, 57]⟩ : ByteArray)] from rfl) (Reps.none _ _))))))); intro v102 w1 ho2 hb hg_ hnew_; clear hg_ hnew_; (first | rw [← Ny101.out] at ho2 | (simp only [Int.reduceToNat] at ho2; rw [← Ny101.out] at ho2)); have HO103 := am (Kd.R_lower ho2 (below_size (pY95))); replace HB := bS pY95 hb; clear hb ho2))
 go_ret
 exact ⟨_, eR, rR HO103.1, pY95⟩
def spec_l1At.l0 : Nat → ByteArray → Int → List ByteArray → List (S56) → Option (Int)
 | 0, _, _, _, _ => none
 | k + 1, x1, x5, x102000, x102001 => if x5 < (x102001.length : Int) then (if 0 ≤ x5 then (if ((rd_T56 x102001 x5).f0).toList = x1.toList then (some x5) else (spec_l1At.l0 k x1 (wrap64 (x5 + 1)) x102000 x102001)) else (none)) else (some (-1))
def spec_l1At.f (k : Nat) (l0_0 : List ByteArray) (l0_1 : List (S56)) (a1 : ByteArray) : Option (Int) := spec_l1At.l0 k a1 0 l0_0 l0_1
theorem spec_l1At.calls (k : Nat) (A0_0 : Option Addr) (c0_0 : Nat) (l0_0 : List ByteArray) (A0_1 : Option Addr) (c0_1 : Nat) (l0_1 : List (S56)) (a1 : ByteArray) (r : Int) (w : World) (hr0_0 : Kd.C Kd.string w A0_0 l0_0.length l0_0) (hc0_0 : l0_0.length ≤ c0_0) (hr0_1 : Kd.C k56 w A0_1 l0_1.length l0_1) (hc0_1 : l0_1.length ≤ c0_1) (h : spec_l1At.f k l0_0 l0_1 a1 = some r) :
  Calls Try.prog 82 #[.agg #[.slice A0_0 l0_0.length c0_0, .slice A0_1 l0_1.length c0_1], .string a1] w fun e w' => e = .returned (.int .i64 r) ∧ Below w.heap.size w w' := by
 have hu31 := Try.underlying31
 have HR0_0 := am hr0_0
 have HC0_0 := am hc0_0
 clear hr0_0 hc0_0
 have HR0_1 := am hr0_1
 have HC0_1 := am hc0_1
 clear hr0_1 hc0_1
 have HB := am (Below.refl w.heap.size w)
 unfold spec_l1At.f at h
 have H := h
 clear h
 have H' := am H
 clear H
 go_enter Try.func82, Try.ntmps82
 go_wp2_with (first | ((with_reducible refine gD 2 ?_); refine bX 2 #[.slice A0_0 l0_0.length c0_0, .slice A0_1 l0_1.length c0_1] 31 ?_; intro gb101 hg w3 hbox hb; have BK101 := am (hbox); have GW101 := am (pY89 : w.heap.size ≤ gb101); have GE101 := am (pY89 : w.heap.size ≤ gb101); replace HB := bS pY95 hb; clear hb hbox hg))
 go_loopg [5] k (fun kq v5 w' => ∃ (x5_1 : Int), v5 = .int .i64 x5_1 ∧ Aside0 (spec_l1At.l0 kq a1 x5_1 l0_0 l0_1 = some r) ∧ Aside0 (kq ≤ k) ∧ Aside0 (w'.heap[gb101]? = some (.cells #[(.slice A0_0 l0_0.length c0_0), (.slice A0_1 l0_1.length c0_1)] 31 (0, 0))) ∧ Aside0 (Below w.heap.size w w'))
 case atStart => exact ⟨(0), (pY136), H', ⟨Nat.le_refl _⟩, ⟨rB BK101.1⟩, ⟨pY90⟩⟩
 case round =>
  clear H'
  obtain ⟨x5_1, rfl, HA, HK1, BK101, HB⟩ := hrel
  cases gk with
  | zero => exact absurd HA.out (by simp [spec_l1At.l0])
  | succ k1 =>
   have H := HA.out
   clear HA
   simp only [spec_l1At.l0] at H
   refine ic H ?_ ?_ <;> clear H <;> intro c4b0 H
   ·obtain ⟨c5b0, H⟩ := cN H
    by_cases c6 : ((rd_T56 l0_1 x5_1).f0).toList = a1.toList
    ·rw [if_pos c6] at H
     have c6b0 : (((rd_T56 l0_1 x5_1).f0).toList == a1.toList) = true := beq_iff_eq.mpr c6
     have c6b1 : (((rd_T56 l0_1 x5_1).f0).toList != a1.toList) = false := bne_eq_false_iff_eq.mpr c6
     clear c6
     obtain rfl := Option.some.inj H
     obtain ⟨hcz7_0, hcz7_1, hfz7_0, hfz7_1⟩ := cz2 BK101
     obtain ⟨ad102, A102_1, c102_1, A102_2, c102_2, e102, hx102_0, hx102_1, hx102_2, HR102_1, HC102_1, HR102_2, HC102_2, p102, q102⟩ := aT56 HR0_1 HB x5_1
     cases e102
     go_wp2
     go_ret
     exact ⟨eR, pY90⟩
    ·rw [if_neg c6] at H
     have c6b0 : (((rd_T56 l0_1 x5_1).f0).toList == a1.toList) = false := beq_eq_false_iff_ne.mpr c6
     have c6b1 : (((rd_T56 l0_1 x5_1).f0).toList != a1.toList) = true := bne_iff_ne.mpr c6
     have H' := am H
     clear H
     obtain ⟨hcz8_0, hcz8_1, hfz8_0, hfz8_1⟩ := cz2 BK101
     obtain ⟨ad102, A102_1, c102_1, A102_2, c102_2, e102, hx102_0, hx102_1, hx102_2, HR102_1, HC102_1, HR102_2, HC102_2, p102, q102⟩ := aT56 HR0_1 HB x5_1
     cases e102
     go_wp2
     go_roundg k1
     case measure => have := HK1.out; omega
     case rel => exact ⟨(wrap64 (x5_1 + 1)), (pY136), H', ⟨by have := HK1.out; omega⟩, ⟨rB BK101.1⟩, ⟨pY90⟩⟩
   ·obtain rfl := Option.some.inj H
    obtain ⟨hcz9_0, hcz9_1, hfz9_0, hfz9_1⟩ := cz2 BK101
    go_wp2
    go_ret
    exact ⟨eR, pY90⟩
mutual
def spec_l5Does.j0 : Nat → Bool → List Int → Int → List ByteArray → List (S56) → Int → ByteArray → Option (Int × ByteArray × List ByteArray × Int)
 | 0, _, _, _, _, _, _, _ => none
 | k + 1, x20, x1000, x1001, x102000, x102001, x109000, x109001 => if x20 = true then ((spec_l1Rd_pick.f k x1000 x1001 (x102001.length : Int)).bind fun bt111 => (if 0 ≤ bt111.1 then (if bt111.1 < (x102001.length : Int) then (spec_l5Does.j1 k x1000 bt111.2 x102000 x102001 x109000 ((rd_T56 x102001 bt111.1).f0)) else (none)) else (none))) else (spec_l5Does.j1 k x1000 x1001 x102000 x102001 x109000 x109001)
def spec_l5Does.j1 : Nat → List Int → Int → List ByteArray → List (S56) → Int → ByteArray → Option (Int × ByteArray × List ByteArray × Int)
 | 0, _, _, _, _, _, _ => none
 | k + 1, x1000, x1001, x102000, x102001, x109000, x109001 => (spec_l1At.f k x102000 x102001 x109001).bind fun t114 => (if t114 ≥ 0 then (if 0 ≤ t114 then (if t114 < (x102001.length : Int) then (spec_l5Does.j2 k ((rd_T56 x102001 t114).f2) x1000 x1001 x102000 x102001 x109000 x109001) else (none)) else (none)) else (spec_l5Does.j2 k x102000 x1000 x1001 x102000 x102001 x109000 x109001))
def spec_l5Does.j2 : Nat → List ByteArray → List Int → Int → List ByteArray → List (S56) → Int → ByteArray → Option (Int × ByteArray × List ByteArray × Int)
 | 0, _, _, _, _, _, _, _ => none
 | k + 1, x7, x1000, x1001, x102000, x102001, x109000, x109001 => (spec_l1Rd_pick.f k x1000 x1001 9).bind fun bt116 => (if bt116.1 = 0 then (spec_l5Does.j3 k x7 bt116.1 (bt116.1 == 0) x1000 bt116.2 x102000 x102001 x109000 x109001) else (if bt116.1 = 1 then (spec_l5Does.j3 k x7 bt116.1 (bt116.1 == 1) x1000 bt116.2 x102000 x102001 x109000 x109001) else (spec_l5Does.j3 k x7 bt116.1 (bt116.1 == 2) x1000 bt116.2 x102000 x102001 x109000 x109001)))
def spec_l5Does.j4 : Nat → List Int → Int → Int → ByteArray → List ByteArray → Option (Int × ByteArray × List ByteArray × Int)
 | 0, _, _, _, _, _ => none
 | k + 1, x1000, x1001, x109000, x109001, x109002 => (spec_l1Rd_pick.f k x1000 x1001 24).bind fun bt135 => (if bt135.1 = 0 then ((spec_l1Rd_of.f k x1000 bt135.2 (([(⟨#[]⟩ : ByteArray), (⟨#[97]⟩ : ByteArray), (⟨#[122, 122]⟩ : ByteArray), (⟨#[116, 117, 110]⟩ : ByteArray)] : List ByteArray))).bind fun bt140 => (if x109002.length < 8796093022208 then (some (x109000, x109001, (x109002 ++ [bt140.1]), bt140.2)) else (none))) else (if bt135.1 = 1 then ((spec_l1Rd_of.f k x1000 bt135.2 (([(⟨#[]⟩ : ByteArray), (⟨#[65]⟩ : ByteArray), (⟨#[122, 122]⟩ : ByteArray)] : List ByteArray))).bind fun bt148 => (some (x109000, bt148.1, x109002, bt148.2))) else (some (x109000, x109001, x109002, bt135.2))))
def spec_l5Does.j3 : Nat → List ByteArray → Int → Bool → List Int → Int → List ByteArray → List (S56) → Int → ByteArray → Option (Int × ByteArray × List ByteArray × Int)
 | 0, _, _, _, _, _, _, _, _, _ => none
 | k + 1, x7, x47, x52, x1000, x1001, x102000, x102001, x109000, x109001 => if x52 = true then ((spec_l5Names.f).bind fun t118 => ((spec_l1Rd_of.f k x1000 x1001 t118).bind fun bt121 => ((spec_l5Some.f k x1000 bt121.2 x102000 2).bind fun bt123 => (spec_l5Does.j4 k x1000 bt123.2 1 bt121.1 bt123.1)))) else (if x47 = 3 then ((spec_l5Some.f k x1000 x1001 x7 2).bind fun bt127 => (spec_l5Does.j4 k x1000 bt127.2 3 x109001 bt127.1)) else (if x47 = 4 then (spec_l5Does.j4 k x1000 x1001 4 x109001 ([] : List ByteArray)) else ((spec_l5Some.f k x1000 x1001 x7 2).bind fun bt131 => (spec_l5Does.j4 k x1000 bt131.2 x109000 x109001 bt131.1))))
end
def spec_l5Does.f (k : Nat) (s0_0 : List Int) (s0_1 : Int) (l1_0 : List ByteArray) (l1_1 : List (S56)) : Option (Int × ByteArray × List ByteArray × Int) := (spec_l5Names.f).bind fun t103 => ((spec_l1Rd_of.f k s0_0 s0_1 t103).bind fun bt106 => (if (l1_1.length : Int) > 0 then ((spec_l1Rd_pick.f k s0_0 bt106.2 8).bind fun bt109 => (spec_l5Does.j0 k (decide (bt109.1 > 0)) s0_0 bt109.2 l1_0 l1_1 2 bt106.1)) else (spec_l5Does.j0 k false s0_0 bt106.2 l1_0 l1_1 2 bt106.1)))
def spec_l5Does.T3 : Bool × List (List Nat × List Nat) := (true, [([], []), ([0], [0]), ([], []), ([], []), ([3], [3]), ([4], [4]), ([2, 5], [2, 5]), ([1, 6], [1, 6]), ([7], [7]), ([8], [8]), ([0, 1, 2, 3, 4, 5, 6, 7, 8, 9], []), ([10, 9, 6, 0, 1, 2, 3, 4, 5, 6, 7, 8, 9], [9, 10])])
def spec_l5Does.B3 : List Nat := [0, 1, 0, 0, 8, 24, 60, 127, 255, 511, 1023, 2047]
theorem spec_l5Does.tab3 : rtab .any (opsOf Try.f121 3) = spec_l5Does.T3 := by kernel_rfl
theorem spec_l5Does.bits3 : waitsOk spec_l5Does.T3.2 spec_l5Does.B3 = true := by kernel_rfl
def spec_l5Does.T23 : Bool × List (List Nat × List Nat) := (true, [([], []), ([0], [0]), ([], []), ([], []), ([2, 3], [2, 3]), ([4], [4]), ([1, 5, 4], [1, 5]), ([0, 1, 2, 3, 4, 5, 6], []), ([7, 6, 6, 0, 1, 2, 3, 4, 5, 6], [6, 7])])
def spec_l5Does.B23 : List Nat := [0, 1, 0, 0, 12, 28, 63, 127, 255]
theorem spec_l5Does.tab23 : rtab .any (opsOf Try.f121 23) = spec_l5Does.T23 := by kernel_rfl
theorem spec_l5Does.bits23 : waitsOk spec_l5Does.T23.2 spec_l5Does.B23 = true := by kernel_rfl
theorem spec_l5Does.calls (k : Nat) (g : Nat) (s0_0 : List Int) (s0_1 : Int) (A1_0 : Option Addr) (c1_0 : Nat) (l1_0 : List ByteArray) (A1_1 : Option Addr) (c1_1 : Nat) (l1_1 : List (S56)) (r1 : Int) (r2 : ByteArray) (r3 : List ByteArray) (r4 : Int) (w0 w : World) (hI : IsS103 w0 w g s0_0 s0_1) (hB : Below w0.heap.size w0 w) (hr1_0 : Kd.C Kd.string w A1_0 l1_0.length l1_0) (hc1_0 : l1_0.length ≤ c1_0) (hf1_0 : ∀ ad, A1_0 = some ad → 0 < l1_0.length → ad.block ≠ g) (hr1_1 : ∀ W_, KeepBut w W_ g none → Kd.C k56 W_ A1_1 l1_1.length l1_1) (hc1_1 : l1_1.length ≤ c1_1) (h : spec_l5Does.f k s0_0 s0_1 l1_0 l1_1 = some (r1, r2, r3, r4)) :
  Calls Try.prog 121 #[.pointer (some ⟨g, 0, none⟩), .agg #[.slice A1_0 l1_0.length c1_0, .slice A1_1 l1_1.length c1_1]] w fun e w' => ∃ v2_ : Value, e = .returned (.agg #[.int .i64 r1, .string r2, v2_]) ∧ Kd.R Kd.string 9 w' w.heap.size (fun _ => True) v2_ r3 ∧ IsS103 w0 w' g s0_0 r4 ∧ Below w0.heap.size w0 w' ∧ KeepBut w w' g none := by
 have hu31 := Try.underlying31
 have hu106 := Try.underlying106
 have HR1_0 := am hr1_0
 have HC1_0 := am hc1_0
 clear hr1_0 hc1_0
 have HR1_1 := am hr1_1
 have HC1_1 := am hc1_1
 clear hr1_1 hc1_1
 have HI0 := am hI
 have HK := am (KeepBut.refl w g none)
 have HL := am hB.size
 clear hI
 have HW0 := am hB.size
 have HB := am hB
 clear hB
 unfold spec_l5Does.f at h
 have H := h
 clear h
 obtain ⟨t103, A3, H⟩ := bd H
 obtain ⟨⟨t106, t107⟩, A4, H⟩ := bd H
 dsimp only at H
 have HC5 := am H
 clear H
 go_enter Try.func121, Try.ntmps121
 go_upto_region 2 with (first | ((with_reducible refine gD 3 ?_); refine bX 3 #[.slice A1_0 l1_0.length c1_0, .slice A1_1 l1_1.length c1_1] 31 ?_; intro gb101 hg w6 hbox hb; replace HB := bS pY88 hb; have BK101 := am (hbox); have GW101 := am (pY74 : w.heap.size ≤ gb101); have GE101 := am (Nat.le_trans HW0.out (pY74 : w.heap.size ≤ gb101) : w0.heap.size ≤ gb101); replace HK := am (KeepBut.trans (pY93) (KeepBut.of_below hb g none) (.inl rfl)); have NB0_101 := am (by rw [hg]; exact Nat.ne_of_lt (IsS103.lt (show IsS103 w0 _ g s0_0 s0_1 from pY92)) : g ≠ gb101); have NB101_0 := am (by rw [hg]; exact Nat.ne_of_gt (IsS103.lt (show IsS103 w0 _ g s0_0 s0_1 from pY92)) : gb101 ≠ g); replace HI0 := am (IsS103.below (pY92) hb); clear hb hbox hg) | ((with_reducible refine gD 4 ?_); refine bX 4 #[.int .i64 0, .string (⟨#[]⟩ : ByteArray), .slice none 0 0] 106 ?_; intro gb102 hg w7 hbox hb; replace HB := bS pY76 hb; have BK102 := am (hbox); have GW102 := am (pY54 : w.heap.size ≤ gb102); have GE102 := am (Nat.le_trans HW0.out (pY54 : w.heap.size ≤ gb102) : w0.heap.size ≤ gb102); replace HK := am (KeepBut.trans (pY87) (KeepBut.of_below hb g none) (.inl rfl)); have NB101_102 := nL pY98 hg; have NB102_101 := nG pY98 hg; replace BK101 := bB pY98 hb; have NB0_102 := am (by rw [hg]; exact Nat.ne_of_lt (IsS103.lt (show IsS103 w0 _ g s0_0 s0_1 from pY85)) : g ≠ gb102); have NB102_0 := am (by rw [hg]; exact Nat.ne_of_gt (IsS103.lt (show IsS103 w0 _ g s0_0 s0_1 from pY85)) : gb102 ≠ g); replace HI0 := am (IsS103.below (pY85) hb); clear hb hbox hg) | ((with_reducible refine gC 132 ?_); refine cE (some 9) Try.func132 (spec_l5Names.calls  t103 _ A3.out) ?_; rintro e w8 ⟨v104, rfl, ho0, hb⟩; refine ⟨_, rfl, ?_⟩; have HO105 := am (Kd.R_lower ho0 (keep_size (w := w) (g := g) (row := none) (pY72))); replace BK101 := bB pY98 hb; replace BK102 := bB pY99 hb; replace HK := am (KeepBut.trans (pY72) (KeepBut.of_below hb g none) (.inl rfl)); replace HB := bS pY57 hb; replace HI0 := am (IsS103.below (pY67) hb); (try clear hb); (try clear ho0); obtain ⟨Ao9, co9, eo9⟩ := Kd.R_slice HO105.1; subst eo9) | ((with_reducible refine gC 101 ?_); refine cQ (some 10) Try.func101 (spec_l1Rd_of.calls k g s0_0 s0_1 _ _ t103 t106 t107 w0 _ ((pY67)) ((pY57)) (pC (Kd.R_reads' HO105.1).2.2) ((Kd.R_reads' HO105.1).2.1) (far_slice (IsS103.own_ne HI0.out HO105.1 (by decide))) A4.out) ?_; rintro w10 ⟨hi, hb, hk⟩; replace BK101 := kb pY98 hk NB101_0; replace BK102 := kb pY99 hk NB102_0; replace HO105 := am (Kd.R_mono (Kd.R_keep (IsS103.apart (show IsS103 w0 _ g s0_0 s0_1 from pY67) (pY120) (by decide)) hk (fun _ h => h.2)) (fun _ h => h.1)); replace HK := am (KeepBut.trans (pY72) hk (.inl rfl)); replace HB := am (hb); replace HI0 := am (hi); (try clear hb); (try clear hk); (try clear hi)) | ((with_reducible refine gD 5 ?_); refine bX 5 #[.int .i64 0, .string (⟨#[]⟩ : ByteArray), .slice none 0 0] 106 ?_; intro gb108 hg w11 hbox hb; replace HO105 := am (Kd.R_below (pY120) hb); replace HB := bS pY57 hb; have BK108 := am (hbox); have GW108 := am (pY19 : w.heap.size ≤ gb108); have GE108 := am (Nat.le_trans HW0.out (pY19 : w.heap.size ≤ gb108) : w0.heap.size ≤ gb108); replace HK := am (KeepBut.trans (pY72) (KeepBut.of_below hb g none) (.inl rfl)); have NB101_108 := nL pY98 hg; have NB108_101 := nG pY98 hg; replace BK101 := bB pY98 hb; have NB102_108 := nL pY99 hg; have NB108_102 := nG pY99 hg; replace BK102 := bB pY99 hb; have NB0_108 := am (by rw [hg]; exact Nat.ne_of_lt (IsS103.lt (show IsS103 w0 _ g s0_0 t107 from pY67)) : g ≠ gb108); have NB108_0 := am (by rw [hg]; exact Nat.ne_of_gt (IsS103.lt (show IsS103 w0 _ g s0_0 t107 from pY67)) : gb108 ≠ g); replace HI0 := am (IsS103.below (pY67) hb); clear hb hbox hg; have hnb12 := NB108_101.1; have hnc12 := NB101_108.1; have hnb13 := NB108_102.1; have hnc13 := NB102_108.1; have hnb14 := NB108_0.1; have hnc14 := NB0_108.1; obtain ⟨hcz15_0, hcz15_1, hcz15_2, hfz15_0, hfz15_1, hfz15_2⟩ := cz3 BK108))
 (try simp only [Act.put, List.setIfInBounds_toArray, List.set_cons_zero, List.set_cons_succ])
 go_cut [20] (fun v20 wc => ∃ (kq : Nat) (x20_4 : Bool) (x1001_4 : Int), v20 = .bool x20_4 ∧ Aside0 (spec_l5Does.j0 kq x20_4 s0_0 x1001_4 l1_0 l1_1 2 t106 = some (r1, r2, r3, r4)) ∧ Aside0 (kq ≤ k) ∧ Aside0 (wc.heap[gb101]? = some (.cells #[(.slice A1_0 l1_0.length c1_0), (.slice A1_1 l1_1.length c1_1)] 31 (0, 0))) ∧ Aside0 (wc.heap[gb102]? = some (.cells #[.int .i64 0, .string (⟨#[]⟩ : ByteArray), (.slice none 0 0)] 106 (0, 0))) ∧ Aside0 (wc.heap[gb108]? = some (.cells #[.int .i64 2, .string t106, (.slice none 0 0)] 106 (0, 0))) ∧ Aside0 (IsS103 w0 wc g s0_0 x1001_4) ∧ Aside0 (KeepBut w wc g none) ∧ Aside0 (Below w0.heap.size w0 wc))
 case first =>
  have H := HC5.1
  clear HC5
  by_cases c16 : (l1_1.length : Int) > 0
  ·rw [if_pos c16] at H
   have c16b0 : decide (0 < (l1_1.length : Int)) = true := decide_eq_true c16
   have c16b1 : decide (0 < l1_1.length) = true := decide_eq_true (by omega)
   clear c16
   (first | rw [c16b0] | (simp only [i64_w, i32_w]; rw [c16b0]) | skip)
   obtain ⟨⟨t109, t110⟩, A17, H⟩ := bd H
   dsimp only at H
   have H' := am H
   clear H
   have hnb18 := NB101_102.1
   have hnc18 := NB102_101.1
   have hnb19 := NB101_108.1
   have hnc19 := NB108_101.1
   have hnb20 := NB101_0.1
   have hnc20 := NB0_101.1
   obtain ⟨hcz21_0, hcz21_1, hfz21_0, hfz21_1⟩ := cz2 BK101
   go_wp2_with (first | (go_at_call 100; refine cM (spec_l1Rd_pick.calls k g s0_0 t107 8 t109 t110 w0 _ ((pY33)) ((pY22)) A17.out) ?_; rintro w22 ⟨hi, hb, hk⟩; replace BK101 := am (KeepBut.blk hk (g' := gb101) (o := .cells #[.slice A1_0 l1_0.length c1_0, .slice A1_1 l1_1.length c1_1] 31 (0, 0)) (by refine rB ?_; refine blk_far ?_ NB101_108.1 _; refine rB ?_; refine blk_far ?_ NB101_108.1 _; refine rB ?_; refine blk_far ?_ NB101_108.1 _; refine rB ?_; exact BK101.1) NB101_0.1 (by simp)); replace BK102 := am (KeepBut.blk hk (g' := gb102) (o := .cells #[.int .i64 0, .string (⟨#[]⟩ : ByteArray), .slice none 0 0] 106 (0, 0)) (by refine rB ?_; refine blk_far ?_ NB102_108.1 _; refine rB ?_; refine blk_far ?_ NB102_108.1 _; refine rB ?_; refine blk_far ?_ NB102_108.1 _; refine rB ?_; exact BK102.1) NB102_0.1 (by simp)); replace HO105 := am (Kd.R_mono (Kd.R_keep (IsS103.apart (show IsS103 w0 _ g s0_0 t107 from pY33) (by refine rR ?_; exact (Kd.R_mono (fR (fR (fR (tR HO105 BK108)))) (fun _ h_ => h_.1))) (by decide)) hk (fun _ h => h.2)) (fun _ h => h.1)); replace BK108 := am (KeepBut.blk hk (g' := gb108) (o := .cells #[.int .i64 2, .string t106, .slice none 0 0] 106 (0, 0)) (by refine rB ?_; refine blk_put (cs := #[.int .i64 2, .string t106, .slice none 0 0]) ?_ 2 _ rfl; refine rB ?_; refine blk_put (cs := #[.int .i64 2, .string (⟨#[]⟩ : ByteArray), .slice none 0 0]) ?_ 1 _ rfl; refine rB ?_; refine blk_put (cs := #[.int .i64 0, .string (⟨#[]⟩ : ByteArray), .slice none 0 0]) ?_ 0 _ rfl; refine rB ?_; exact BK108.1) NB108_0.1 (by simp)); replace HK := am (KeepBut.trans (pY50) hk (.inl rfl)); replace HB := am (hb); replace HI0 := am (hi); (try clear hb); (try clear hk); (try clear hi)))
   go_meet
   case rel => exact ⟨_, (decide (t109 > 0)), (t110), (pY136), H', ⟨by first | omega | exact Nat.le_refl _⟩, ⟨rB BK101.1⟩, ⟨rB BK102.1⟩, ⟨rB BK108.1⟩, ⟨pY33⟩, ⟨pY50⟩, ⟨pY22⟩⟩
  ·rw [if_neg c16] at H
   have c16b0 : decide (0 < (l1_1.length : Int)) = false := decide_eq_false c16
   have c16b1 : decide (0 < l1_1.length) = false := decide_eq_false (by omega)
   clear c16
   (first | rw [c16b0] | (simp only [i64_w, i32_w]; rw [c16b0]) | skip)
   have H' := am H
   clear H
   have hnb23 := NB101_102.1
   have hnc23 := NB102_101.1
   have hnb24 := NB101_108.1
   have hnc24 := NB108_101.1
   have hnb25 := NB101_0.1
   have hnc25 := NB0_101.1
   obtain ⟨hcz26_0, hcz26_1, hfz26_0, hfz26_1⟩ := cz2 BK101
   go_wp2
   go_meet
   case rel => exact ⟨_, (false), (t107), (pY136), H', ⟨by first | omega | exact Nat.le_refl _⟩, ⟨by refine rB ?_; refine blk_far ?_ NB101_108.1 _; refine rB ?_; refine blk_far ?_ NB101_108.1 _; refine rB ?_; refine blk_far ?_ NB101_108.1 _; refine rB ?_; exact BK101.1⟩, ⟨by refine rB ?_; refine blk_far ?_ NB102_108.1 _; refine rB ?_; refine blk_far ?_ NB102_108.1 _; refine rB ?_; refine blk_far ?_ NB102_108.1 _; refine rB ?_; exact BK102.1⟩, ⟨by refine rB ?_; refine blk_put (cs := #[.int .i64 2, .string t106, .slice none 0 0]) ?_ 2 _ rfl; refine rB ?_; refine blk_put (cs := #[.int .i64 2, .string (⟨#[]⟩ : ByteArray), .slice none 0 0]) ?_ 1 _ rfl; refine rB ?_; refine blk_put (cs := #[.int .i64 0, .string (⟨#[]⟩ : ByteArray), .slice none 0 0]) ?_ 0 _ rfl; refine rB ?_; exact BK108.1⟩, ⟨pY33⟩, ⟨pY50⟩, ⟨pY22⟩⟩
 case rest =>
  clear HC5
  try clear hcz15_0 hcz15_1 hcz15_2 hfz15_0 hfz15_1 hfz15_2
  obtain ⟨kq, x20_4, x1001_4, rfl, HA, HJ4, BK101, BK102, BK108, HI0, HK, HB⟩ := hcut
  cases kq with
  | zero => exact absurd HA.out (by simp [spec_l5Does.j0])
  | succ kj4 =>
   have H := HA.out
   clear HA
   simp only [spec_l5Does.j0] at H
   have HC27 := am H
   clear H
   go_upto_if 20 with ((fail))
   go_cut [] (fun wc => ∃ (kq : Nat) (x1001_26 : Int) (x109001_26 : ByteArray), Aside0 (spec_l5Does.j1 kq s0_0 x1001_26 l1_0 l1_1 2 x109001_26 = some (r1, r2, r3, r4)) ∧ Aside0 (kq ≤ kj4) ∧ Aside0 (wc.heap[gb101]? = some (.cells #[(.slice A1_0 l1_0.length c1_0), (.slice A1_1 l1_1.length c1_1)] 31 (0, 0))) ∧ Aside0 (wc.heap[gb102]? = some (.cells #[.int .i64 0, .string (⟨#[]⟩ : ByteArray), (.slice none 0 0)] 106 (0, 0))) ∧ Aside0 (wc.heap[gb108]? = some (.cells #[.int .i64 2, .string x109001_26, (.slice none 0 0)] 106 (0, 0))) ∧ Aside0 (IsS103 w0 wc g s0_0 x1001_26) ∧ Aside0 (KeepBut w wc g none) ∧ Aside0 (Below w0.heap.size w0 wc))
   case first =>
    have H := HC27.1
    clear HC27
    refine tC H ?_ ?_ <;> clear H <;> intro c28 H <;> subst c28
    ·obtain ⟨⟨t111, t112⟩, A29, H⟩ := bd H
     dsimp only at H
     obtain ⟨c30b0, H⟩ := cN H
     (first | rw [c30b0] | (simp only [i64_w, i32_w]; rw [c30b0]) | skip)
     obtain ⟨c31b0, H⟩ := cN H
     have H' := am H
     clear H
     try go_wp2
     replace BK101 := am (blk_drew BK101.1)
     replace BK102 := am (blk_drew BK102.1)
     replace BK108 := am (blk_drew BK108.1)
     replace HI0 := am (IsS103.drew HI0.out)
     replace HK := am (keep_drew HK.out)
     replace HB := am (below_drew1 HB.1)
     have p113 : 0 ≤ (t111 : Int) := oT
     have q113 : t111 < (l1_1.length : Int) := oT
     obtain ⟨ad113, A113_1, c113_1, A113_2, c113_2, e113, hx113_0, hx113_1, hx113_2, hl113_1, hi113_1, hl113_2, hi113_2⟩ := at_T56 (Kd.C_foot_now HR1_1.1 HK.out) t111 p113 q113
     have hw113_2 := hx113_2
     have hw113_1 := hx113_1
     have hw113_0 := hx113_0
     cases e113
     have hne113_2 := (show (⟨(ad113.add ((t111).toNat * 3)).block, (ad113.add ((t111).toNat * 3)).off + 2, none⟩ : Addr).block ≠ g from by first | (rw [add_block]; exact Kd.foot_ne HR1_1.1 (by omega) (by decide)) | (show (Addr.add _ _).block ≠ _; rw [add_block]; exact Kd.foot_ne HR1_1.1 (by omega) (by decide)) | exact Kd.foot_ne HR1_1.1 (by omega) (by decide) | (dsimp only; exact Kd.foot_ne HR1_1.1 (by omega) (by decide)))
     have hlt113_2 := (Kd.foot_lt HR1_1.1 (by omega) (by decide))
     have hne113_1 := (show (⟨(ad113.add ((t111).toNat * 3)).block, (ad113.add ((t111).toNat * 3)).off + 1, none⟩ : Addr).block ≠ g from by first | (rw [add_block]; exact Kd.foot_ne HR1_1.1 (by omega) (by decide)) | (show (Addr.add _ _).block ≠ _; rw [add_block]; exact Kd.foot_ne HR1_1.1 (by omega) (by decide)) | exact Kd.foot_ne HR1_1.1 (by omega) (by decide) | (dsimp only; exact Kd.foot_ne HR1_1.1 (by omega) (by decide)))
     have hlt113_1 := (Kd.foot_lt HR1_1.1 (by omega) (by decide))
     have hne113_0 := (show ((ad113.add ((t111).toNat * 3)) : Addr).block ≠ g from by first | (rw [add_block]; exact Kd.foot_ne HR1_1.1 (by omega) (by decide)) | (show (Addr.add _ _).block ≠ _; rw [add_block]; exact Kd.foot_ne HR1_1.1 (by omega) (by decide)) | exact Kd.foot_ne HR1_1.1 (by omega) (by decide) | (dsimp only; exact Kd.foot_ne HR1_1.1 (by omega) (by decide)))
     have hlt113_0 := (Kd.foot_lt HR1_1.1 (by omega) (by decide))
     have HR113_1 := am hi113_1
     have HC113_1 := am hl113_1
     clear hi113_1 hl113_1
     have HR113_2 := am hi113_2
     have HC113_2 := am hl113_2
     clear hi113_2 hl113_2
     replace p113 := eq_true p113
     replace q113 := eq_true q113
     refine sT (S := fun w' => w'.cell? ⟨gb101, 0, none⟩ = some (.slice A1_0 l1_0.length c1_0) ∧ w'.cell? ⟨gb101, 1, none⟩ = some (.slice (some ad113) l1_1.length c1_1) ∧ w'.cell? (ad113.add ((t111).toNat * 3)) = some (.string ((rd_T56 l1_1 t111).f0)) ∧ w'.cell? ⟨(ad113.add ((t111).toNat * 3)).block, (ad113.add ((t111).toNat * 3)).off + 1, none⟩ = some (.slice A113_1 ((rd_T56 l1_1 t111).f1).length c113_1) ∧ w'.cell? ⟨(ad113.add ((t111).toNat * 3)).block, (ad113.add ((t111).toNat * 3)).off + 2, none⟩ = some (.slice A113_2 ((rd_T56 l1_1 t111).f2).length c113_2)) [] 12 ⟨⟨(blk_cell BK101.1 0).trans rfl, (blk_cell BK101.1 1).trans rfl, hx113_0, hx113_1, hx113_2⟩⟩ (fun hHeld => ?_); refine with_tabW spec_l5Does.tab3 spec_l5Does.bits3 (fun HT_ HW_ => ?_)
     generalize wc.drew = w32 at BK101 BK102 BK108 HI0 HK HB HR113_1 HR113_2 hx113_0 hx113_1 hx113_2 hHeld ⊢
     refine pU 0 (some 21) ?_
     refine pU 2 (some 23) ?_
     refine pU 3 (some 24) ?_
     refine tK5 1 (some 22) ?_
     refine tK5 4 (some 25) ?_
     refine pU 5 (some 26) ?_
     refine oN 6 (some 27) fun K hK => ?_
     refine goes_ Try.func100 (by kernel_rfl) rfl #[.pointer (some ⟨g, 0, none⟩), .int .i64 (l1_1.length : Int)] (by rfl) rfl rfl (pY94) ?_
     with_reducible refine (spec_l1Rd_pick.calls kj4 g s0_0 x1001_4 (l1_1.length : Int) t111 t112 w0 _ ?side1 ?side2 A29.out).mono ?_
     (case side1 => exact (pY33))
     (case side2 => exact (pY22))
     rintro e w33 ⟨rfl, hi, hb, hk⟩
     have HS2_ := keep_cell hk (hHeld.2.2.1) (by first | (rw [add_block]; exact hne113_0) | (show (Addr.add _ _).block ≠ _; rw [add_block]; exact hne113_0) | exact hne113_0)
     have HS3_ := keep_cell hk (hHeld.2.2.2.1) (by first | (rw [add_block]; exact hne113_1) | (show (Addr.add _ _).block ≠ _; rw [add_block]; exact hne113_1) | exact hne113_1)
     have HS4_ := keep_cell hk (hHeld.2.2.2.2) (by first | (rw [add_block]; exact hne113_2) | (show (Addr.add _ _).block ≠ _; rw [add_block]; exact hne113_2) | exact hne113_2)
     refine ⟨_, rfl, ?_⟩
     replace BK101 := kb pY98 hk NB101_0
     replace BK102 := kb pY99 hk NB102_0
     replace BK108 := kb pY100 hk NB108_0
     replace HK := am (KeepBut.trans (pY50) hk (.inl rfl))
     replace HB := am (hb)
     replace HI0 := am (hi)
     (try clear hb)
     (try clear hb2)
     (try clear hk)
     (try clear hi)
     refine hK.out _ _ ⟨(blk_cell BK101.1 0).trans rfl, (blk_cell BK101.1 1).trans rfl, HS2_, HS3_, HS4_⟩ (fun hHeld => ?_)
     clear hK K
     refine nM ?_
     refine pU 7 (some 28) ?_
     refine pU 8 (some 29) ?_
     refine tK5 9 (some 30) ?_
     refine pU 10 (some 31) ?_
     refine oN 11 none fun K hK => ?_
     have hs34 : w33.cell? ⟨gb108, 1, none⟩ = some (.string t106) := (blk_cell BK108.1 1).trans rfl
     have hfs34 := blk_frozen BK108.1 1
     have hns34_0 := NB101_108.1
     have hns34_1 := NB102_108.1
     have hms34_0 := NB108_101.1
     have hms34_1 := NB108_102.1
     refine skip_ (w1 := ?_) (by rfl) rfl ?_ ?_
     rotate_left
     ·go_simp
      rfl
     refine hK.out _ _ ⟨((cell_far (p := ⟨gb108, _, none⟩) NB101_108.1 _).trans (hHeld.1)), ((cell_far (p := ⟨gb108, _, none⟩) NB101_108.1 _).trans (hHeld.2.1)), ((cell_far (p := ⟨gb108, _, none⟩) (by first | exact Nat.ne_of_lt (Nat.lt_of_lt_of_le hlt113_0 GW108.out) | (rw [add_block]; exact Nat.ne_of_lt (Nat.lt_of_lt_of_le hlt113_0 GW108.out)) | (show (Addr.add _ _).block ≠ _; rw [add_block]; exact Nat.ne_of_lt (Nat.lt_of_lt_of_le hlt113_0 GW108.out)) | (dsimp only; exact Nat.ne_of_lt (Nat.lt_of_lt_of_le hlt113_0 GW108.out))) _).trans (hHeld.2.2.1)), ((cell_far (p := ⟨gb108, _, none⟩) (by first | exact Nat.ne_of_lt (Nat.lt_of_lt_of_le hlt113_1 GW108.out) | (rw [add_block]; exact Nat.ne_of_lt (Nat.lt_of_lt_of_le hlt113_1 GW108.out)) | (show (Addr.add _ _).block ≠ _; rw [add_block]; exact Nat.ne_of_lt (Nat.lt_of_lt_of_le hlt113_1 GW108.out)) | (dsimp only; exact Nat.ne_of_lt (Nat.lt_of_lt_of_le hlt113_1 GW108.out))) _).trans (hHeld.2.2.2.1)), ((cell_far (p := ⟨gb108, _, none⟩) (by first | exact Nat.ne_of_lt (Nat.lt_of_lt_of_le hlt113_2 GW108.out) | (rw [add_block]; exact Nat.ne_of_lt (Nat.lt_of_lt_of_le hlt113_2 GW108.out)) | (show (Addr.add _ _).block ≠ _; rw [add_block]; exact Nat.ne_of_lt (Nat.lt_of_lt_of_le hlt113_2 GW108.out)) | (dsimp only; exact Nat.ne_of_lt (Nat.lt_of_lt_of_le hlt113_2 GW108.out))) _).trans (hHeld.2.2.2.2))⟩ (fun hHeld => ?_)
     clear hK K
     refine done_ (done_of HT_.out (by kernel_rfl)) ?_
     try go_wp2
     go_meet
     case rel => exact ⟨_, (t112), ((rd_T56 l1_1 t111).f0), H', ⟨by have := HJ4.out; first | omega | exact Nat.le_refl _⟩, ⟨by refine rB ?_; refine blk_far ?_ NB101_108.1 _; refine rB ?_; exact BK101.1⟩, ⟨by refine rB ?_; refine blk_far ?_ NB102_108.1 _; refine rB ?_; exact BK102.1⟩, ⟨by refine rB ?_; refine blk_put (cs := #[.int .i64 2, .string t106, .slice none 0 0]) ?_ 1 _ rfl; refine rB ?_; exact BK108.1⟩, ⟨pY33⟩, ⟨pY50⟩, ⟨pY22⟩⟩
    ·have H' := am H
     clear H
     go_wp2
     go_meet
     case rel => exact ⟨_, (x1001_4), (t106), H', ⟨by have := HJ4.out; first | omega | exact Nat.le_refl _⟩, ⟨rB BK101.1⟩, ⟨rB BK102.1⟩, ⟨rB BK108.1⟩, ⟨pY33⟩, ⟨pY50⟩, ⟨pY22⟩⟩
   case rest =>
    clear HC27
    try clear hcz15_0 hcz15_1 hcz15_2 hfz15_0 hfz15_1 hfz15_2
    obtain ⟨kq, x1001_26, x109001_26, HA, HJ26, BK101, BK102, BK108, HI0, HK, HB⟩ := hcut
    cases kq with
    | zero => exact absurd HA.out (by simp [spec_l5Does.j1])
    | succ kj26 =>
     have H := HA.out
     clear HA
     simp only [spec_l5Does.j1] at H
     obtain ⟨t114, A35, H⟩ := bd H
     have HC36 := am H
     clear H
     have hnb37 := NB101_102.1
     have hnc37 := NB102_101.1
     have hnb38 := NB101_108.1
     have hnc38 := NB108_101.1
     have hnb39 := NB101_0.1
     have hnc39 := NB0_101.1
     obtain ⟨hcz40_0, hcz40_1, hfz40_0, hfz40_1⟩ := cz2 BK101
     have hnb41 := NB108_102.1
     have hnc41 := NB102_108.1
     have hnb42 := NB108_0.1
     have hnc42 := NB0_108.1
     obtain ⟨hcz43_0, hcz43_1, hcz43_2, hfz43_0, hfz43_1, hfz43_2⟩ := cz3 BK108
     go_upto_if 39 with (first | ((with_reducible refine gC 82 ?_); refine cQ (some 35) Try.func82 (spec_l1At.calls kj26 _ _ l1_0 _ _ l1_1 x109001_26 t114 _ (Kd.C_keep (⟨#[]⟩ : ByteArray) HR1_0.1 (pY50) hf1_0) HC1_0.1 (Kd.C_foot_now HR1_1.1 (pY50)) HC1_1.1 A35.out) ?_; rintro w44 hb; replace BK101 := bB pY98 hb; replace BK102 := bB pY99 hb; replace BK108 := bB pY100 hb; replace HK := am (KeepBut.trans (pY50) (KeepBut.of_below hb g none) (.inl rfl)); replace HB := bS pY22 hb; replace HI0 := am (IsS103.below (pY33) hb); (try clear hb); obtain ⟨hcz45_0, hcz45_1, hfz45_0, hfz45_1⟩ := cz2 BK101))
     (try simp only [Act.put, List.setIfInBounds_toArray, List.set_cons_zero, List.set_cons_succ])
     go_cut [7] (fun v7 wc => ∃ (kq : Nat) (x7_35 : List ByteArray), Aside0 (spec_l5Does.j2 kq x7_35 s0_0 x1001_26 l1_0 l1_1 2 x109001_26 = some (r1, r2, r3, r4)) ∧ Aside0 (kq ≤ kj26) ∧ Aside0 (∃ A_ c_, v7 = .slice A_ x7_35.length c_ ∧ Kd.C Kd.string w A_ x7_35.length x7_35 ∧ x7_35.length ≤ c_ ∧ (∀ ad, A_ = some ad → 0 < x7_35.length → ad.block ≠ g)) ∧ Aside0 (wc.heap[gb101]? = some (.cells #[(.slice A1_0 l1_0.length c1_0), (.slice A1_1 l1_1.length c1_1)] 31 (0, 0))) ∧ Aside0 (wc.heap[gb102]? = some (.cells #[.int .i64 0, .string (⟨#[]⟩ : ByteArray), (.slice none 0 0)] 106 (0, 0))) ∧ Aside0 (wc.heap[gb108]? = some (.cells #[.int .i64 2, .string x109001_26, (.slice none 0 0)] 106 (0, 0))) ∧ Aside0 (IsS103 w0 wc g s0_0 x1001_26) ∧ Aside0 (KeepBut w wc g none) ∧ Aside0 (Below w0.heap.size w0 wc))
     case first =>
      have H := HC36.1
      clear HC36
      by_cases c46 : t114 ≥ 0
      ·rw [if_pos c46] at H
       have c46b0 : decide (0 ≤ t114) = true := decide_eq_true c46
       clear c46
       (first | rw [c46b0] | (simp only [i64_w, i32_w]; rw [c46b0]) | skip)
       obtain ⟨c47b0, H⟩ := cN H
       obtain ⟨c48b0, H⟩ := cN H
       have H' := am H
       clear H
       have hnb49 := NB101_102.1
       have hnc49 := NB102_101.1
       have hnb50 := NB101_108.1
       have hnc50 := NB108_101.1
       have hnb51 := NB101_0.1
       have hnc51 := NB0_101.1
       obtain ⟨hcz52_0, hcz52_1, hfz52_0, hfz52_1⟩ := cz2 BK101
       obtain ⟨ad115, A115_1, c115_1, A115_2, c115_2, e115, hx115_0, hx115_1, hx115_2, HR115_1, HC115_1, HR115_2, HC115_2, p115, q115⟩ := aT56 (am (Kd.C_foot_now HR1_1.1 HK.out)) b0 t114
       cases e115
       go_wp2
       go_meet
       case rel => exact ⟨_, ((rd_T56 l1_1 t114).f2), H', ⟨by have := HJ4.out; have := HJ26.out; first | omega | exact Nat.le_refl _⟩, ⟨⟨_, _, rfl, (foot_inner HR1_1.1 HK.out t114 (of_eq_true p115) (of_eq_true q115) hx115_2) w (KeepBut.refl w g none), HC115_2.1, foot_far (foot_inner HR1_1.1 HK.out t114 (of_eq_true p115) (of_eq_true q115) hx115_2)⟩⟩, ⟨rB BK101.1⟩, ⟨rB BK102.1⟩, ⟨rB BK108.1⟩, ⟨pY33⟩, ⟨pY50⟩, ⟨pY22⟩⟩
      ·rw [if_neg c46] at H
       have c46b0 : decide (0 ≤ t114) = false := decide_eq_false c46
       clear c46
       (first | rw [c46b0] | (simp only [i64_w, i32_w]; rw [c46b0]) | skip)
       have H' := am H
       clear H
       go_wp2
       go_meet
       case rel => exact ⟨_, (l1_0), H', ⟨by have := HJ4.out; have := HJ26.out; first | omega | exact Nat.le_refl _⟩, ⟨⟨_, _, rfl, HR1_0.1, HC1_0.1, hf1_0⟩⟩, ⟨rB BK101.1⟩, ⟨rB BK102.1⟩, ⟨rB BK108.1⟩, ⟨pY33⟩, ⟨pY50⟩, ⟨pY22⟩⟩
     case rest =>
      clear HC36
      try clear hcz15_0 hcz15_1 hcz15_2 hfz15_0 hfz15_1 hfz15_2
      try clear hcz40_0 hcz40_1 hfz40_0 hfz40_1
      try clear hcz43_0 hcz43_1 hcz43_2 hfz43_0 hfz43_1 hfz43_2
      try clear hcz45_0 hcz45_1 hfz45_0 hfz45_1
      obtain ⟨kq, x7_35, HA, HJ35, HM7, BK101, BK102, BK108, HI0, HK, HB⟩ := hcut
      obtain ⟨A7m, c7m, rfl, hr7m_, hc7m_, hf7m⟩ := HM7.out
      clear HM7
      have HR7m := am hr7m_
      have HC7m := am hc7m_
      clear hr7m_ hc7m_
      cases kq with
      | zero => exact absurd HA.out (by simp [spec_l5Does.j2])
      | succ kj35 =>
       have H := HA.out
       clear HA
       simp only [spec_l5Does.j2] at H
       obtain ⟨⟨t116, t117⟩, A53, H⟩ := bd H
       dsimp only at H
       have HC54 := am H
       clear H
       go_upto_block 0 with (first | ((with_reducible refine gC 100 ?_); refine cQ (some 47) Try.func100 (spec_l1Rd_pick.calls kj35 g s0_0 x1001_26 9 t116 t117 w0 _ ((pY33)) ((pY22)) A53.out) ?_; rintro w55 ⟨hi, hb, hk⟩; replace BK101 := kb pY98 hk NB101_0; replace BK102 := kb pY99 hk NB102_0; replace BK108 := kb pY100 hk NB108_0; replace HK := am (KeepBut.trans (pY50) hk (.inl rfl)); replace HB := am (hb); replace HI0 := am (hi); (try clear hb); (try clear hk); (try clear hi)))
       (try simp only [Act.put, List.setIfInBounds_toArray, List.set_cons_zero, List.set_cons_succ])
       go_cut [] (fun wc => ∃ (kq : Nat) (x1001_53 : Int) (x109000_53 : Int) (x109001_53 : ByteArray) (x109002_53 : List ByteArray) (u109002 : Value), Aside0 (spec_l5Does.j4 kq s0_0 x1001_53 x109000_53 x109001_53 x109002_53 = some (r1, r2, r3, r4)) ∧ Aside0 (kq ≤ kj35) ∧ Aside0 (Kd.R Kd.string 9 wc w.heap.size (fun _ => True) u109002 x109002_53) ∧ Aside0 (wc.heap[gb101]? = some (.cells #[(.slice A1_0 l1_0.length c1_0), (.slice A1_1 l1_1.length c1_1)] 31 (0, 0))) ∧ Aside0 (wc.heap[gb102]? = some (.cells #[.int .i64 0, .string (⟨#[]⟩ : ByteArray), (.slice none 0 0)] 106 (0, 0))) ∧ Aside0 (wc.heap[gb108]? = some (.cells #[.int .i64 x109000_53, .string x109001_53, u109002] 106 (0, 0))) ∧ Aside0 (IsS103 w0 wc g s0_0 x1001_53) ∧ Aside0 (KeepBut w wc g none) ∧ Aside0 (Below w0.heap.size w0 wc))
       case first =>
        have H := HC54.1
        clear HC54
        have HC56 := am H
        clear H
        go_upto_if 52 with ((fail))
        go_cut [52] (fun v52 wc => ∃ (kq : Nat) (x52_55 : Bool), v52 = .bool x52_55 ∧ Aside0 (spec_l5Does.j3 kq x7_35 t116 x52_55 s0_0 t117 l1_0 l1_1 2 x109001_26 = some (r1, r2, r3, r4)) ∧ Aside0 (kq ≤ kj35) ∧ Aside0 (wc.heap[gb101]? = some (.cells #[(.slice A1_0 l1_0.length c1_0), (.slice A1_1 l1_1.length c1_1)] 31 (0, 0))) ∧ Aside0 (wc.heap[gb102]? = some (.cells #[.int .i64 0, .string (⟨#[]⟩ : ByteArray), (.slice none 0 0)] 106 (0, 0))) ∧ Aside0 (wc.heap[gb108]? = some (.cells #[.int .i64 2, .string x109001_26, (.slice none 0 0)] 106 (0, 0))) ∧ Aside0 (IsS103 w0 wc g s0_0 t117) ∧ Aside0 (KeepBut w wc g none) ∧ Aside0 (Below w0.heap.size w0 wc))
        case first =>
         have H := HC56.1
         clear HC56
         by_cases c57 : t116 = 0
         ·rw [if_pos c57] at H
          have c57b0 : (t116 == 0) = true := beq_iff_eq.mpr c57
          have c57b1 : (t116 != 0) = false := bne_eq_false_iff_eq.mpr c57
          clear c57
          (first | rw [c57b0] | (simp only [i64_w, i32_w]; rw [c57b0]) | skip)
          have H' := am H
          clear H
          go_wp2
          go_meet
          case rel => exact ⟨_, ((t116 == 0)), (pY136), H', ⟨by have := HJ4.out; have := HJ26.out; have := HJ35.out; first | omega | exact Nat.le_refl _⟩, ⟨rB BK101.1⟩, ⟨rB BK102.1⟩, ⟨rB BK108.1⟩, ⟨pY33⟩, ⟨pY50⟩, ⟨pY22⟩⟩
         ·rw [if_neg c57] at H
          have c57b0 : (t116 == 0) = false := beq_eq_false_iff_ne.mpr c57
          have c57b1 : (t116 != 0) = true := bne_iff_ne.mpr c57
          (first | rw [c57b0] | (simp only [i64_w, i32_w]; rw [c57b0]) | skip)
          by_cases c58 : t116 = 1
          ·rw [if_pos c58] at H
           have c58b0 : (t116 == 1) = true := beq_iff_eq.mpr c58
           have c58b1 : (t116 != 1) = false := bne_eq_false_iff_eq.mpr c58
           clear c58
           have H' := am H
           clear H
           go_wp2
           go_meet
           case rel => exact ⟨_, ((t116 == 1)), (pY136), H', ⟨by have := HJ4.out; have := HJ26.out; have := HJ35.out; first | omega | exact Nat.le_refl _⟩, ⟨rB BK101.1⟩, ⟨rB BK102.1⟩, ⟨rB BK108.1⟩, ⟨pY33⟩, ⟨pY50⟩, ⟨pY22⟩⟩
          ·rw [if_neg c58] at H
           have c58b0 : (t116 == 1) = false := beq_eq_false_iff_ne.mpr c58
           have c58b1 : (t116 != 1) = true := bne_iff_ne.mpr c58
           have H' := am H
           clear H
           go_wp2
           go_meet
           case rel => exact ⟨_, ((t116 == 2)), (pY136), H', ⟨by have := HJ4.out; have := HJ26.out; have := HJ35.out; first | omega | exact Nat.le_refl _⟩, ⟨rB BK101.1⟩, ⟨rB BK102.1⟩, ⟨rB BK108.1⟩, ⟨pY33⟩, ⟨pY50⟩, ⟨pY22⟩⟩
        case rest =>
         clear HC56
         try clear hcz15_0 hcz15_1 hcz15_2 hfz15_0 hfz15_1 hfz15_2
         try clear hcz40_0 hcz40_1 hfz40_0 hfz40_1
         try clear hcz43_0 hcz43_1 hcz43_2 hfz43_0 hfz43_1 hfz43_2
         try clear hcz45_0 hcz45_1 hfz45_0 hfz45_1
         obtain ⟨kq, x52_55, rfl, HA, HJ55, BK101, BK102, BK108, HI0, HK, HB⟩ := hcut
         cases kq with
         | zero => exact absurd HA.out (by simp [spec_l5Does.j3])
         | succ kj55 =>
          have H := HA.out
          clear HA
          simp only [spec_l5Does.j3] at H
          rcases tf x52_55 with c59 | c59 <;> subst c59
          ·replace H : ((spec_l5Names.f).bind fun t118 => ((spec_l1Rd_of.f kj55 s0_0 t117 t118).bind fun bt121 => ((spec_l5Some.f kj55 s0_0 bt121.2 l1_0 2).bind fun bt123 => (spec_l5Does.j4 kj55 s0_0 bt123.2 1 bt121.1 bt123.1)))) = some (r1, r2, r3, r4) := iT H
           obtain ⟨t118, A60, H⟩ := bd H
           obtain ⟨⟨t121, t122⟩, A61, H⟩ := bd H
           dsimp only at H
           obtain ⟨⟨t123, t126⟩, A62, H⟩ := bd H
           dsimp only at H
           have H' := am H
           clear H
           have hnb63 := NB108_101.1
           have hnc63 := NB101_108.1
           have hnb64 := NB108_102.1
           have hnc64 := NB102_108.1
           have hnb65 := NB108_0.1
           have hnc65 := NB0_108.1
           obtain ⟨hcz66_0, hcz66_1, hcz66_2, hfz66_0, hfz66_1, hfz66_2⟩ := cz3 BK108
           go_wp2_with (first | ((with_reducible refine gC 132 ?_); refine cE (some 58) Try.func132 (spec_l5Names.calls  t118 _ A60.out) ?_; rintro e w67 ⟨v119, rfl, ho0, hb⟩; refine ⟨_, rfl, ?_⟩; have HO120 := am (Kd.R_lower ho0 (keep_size (w := w) (g := g) (row := none) (pY50))); replace BK101 := am (blk_below (g := gb101) (o := .cells #[.slice A1_0 l1_0.length c1_0, .slice A1_1 l1_1.length c1_1] 31 (0, 0)) (by refine rB ?_; refine blk_far ?_ NB101_108.1 _; refine rB ?_; exact BK101.1) hb); replace BK102 := am (blk_below (g := gb102) (o := .cells #[.int .i64 0, .string (⟨#[]⟩ : ByteArray), .slice none 0 0] 106 (0, 0)) (by refine rB ?_; refine blk_far ?_ NB102_108.1 _; refine rB ?_; exact BK102.1) hb); replace BK108 := am (blk_below (g := gb108) (o := .cells #[.int .i64 1, .string x109001_26, .slice none 0 0] 106 (0, 0)) (by refine rB ?_; refine blk_put (cs := #[.int .i64 2, .string x109001_26, .slice none 0 0]) ?_ 0 _ rfl; refine rB ?_; exact BK108.1) hb); replace HK := am (KeepBut.trans (pY50) (KeepBut.of_below hb g none) (.inl rfl)); replace HB := bS pY22 hb; replace HI0 := am (IsS103.below (show IsS103 w0 (wc.setCell ⟨gb108, 0, none⟩ (.int .i64 1)) g s0_0 t117 from pY33) hb); (try clear hb); (try clear ho0); obtain ⟨Ao68, co68, eo68⟩ := Kd.R_slice HO120.1; subst eo68) | ((with_reducible refine gC 101 ?_); refine cQ (some 59) Try.func101 (spec_l1Rd_of.calls kj55 g s0_0 t117 _ _ t118 t121 t122 w0 _ ((pY33)) ((pY22)) (pC (Kd.R_reads' HO120.1).2.2) ((Kd.R_reads' HO120.1).2.1) (far_slice (IsS103.own_ne HI0.out HO120.1 (by decide))) A61.out) ?_; rintro w69 ⟨hi, hb, hk⟩; replace BK101 := kb pY98 hk NB101_0; replace BK102 := kb pY99 hk NB102_0; replace BK108 := kb pY100 hk NB108_0; replace HO120 := am (Kd.R_mono (Kd.R_keep (IsS103.apart (show IsS103 w0 _ g s0_0 t117 from pY33) (rR HO120.1) (by decide)) hk (fun _ h => h.2)) (fun _ h => h.1)); replace HK := am (KeepBut.trans (pY50) hk (.inl rfl)); replace HB := am (hb); replace HI0 := am (hi); (try clear hb); (try clear hk); (try clear hi); obtain ⟨hcz70_0, hcz70_1, hcz70_2, hfz70_0, hfz70_1, hfz70_2⟩ := cz3 BK108; have hnb71 := NB101_102.1; have hnc71 := NB102_101.1; have hnb72 := NB101_0.1; have hnc72 := NB0_101.1; obtain ⟨hcz73_0, hcz73_1, hfz73_0, hfz73_1⟩ := cz2 BK101) | ((with_reducible refine gC 109 ?_); refine cE (some 64) Try.func109 (spec_l5Some.calls kj55 g s0_0 t122 _ _ l1_0 2 t123 t126 w0 _ ((pY33)) ((pY22)) (Kd.C_keep (⟨#[]⟩ : ByteArray) HR1_0.1 (pY50) hf1_0) HC1_0.1 hf1_0 A62.out) ?_; rintro e w74 ⟨v124, rfl, ho0, hi, hb, hk⟩; refine ⟨_, rfl, ?_⟩; replace BK101 := am (KeepBut.blk hk (g' := gb101) (o := .cells #[.slice A1_0 l1_0.length c1_0, .slice A1_1 l1_1.length c1_1] 31 (0, 0)) (by refine rB ?_; refine blk_far ?_ NB101_108.1 _; refine rB ?_; exact BK101.1) NB101_0.1 (by simp)); replace BK102 := am (KeepBut.blk hk (g' := gb102) (o := .cells #[.int .i64 0, .string (⟨#[]⟩ : ByteArray), .slice none 0 0] 106 (0, 0)) (by refine rB ?_; refine blk_far ?_ NB102_108.1 _; refine rB ?_; exact BK102.1) NB102_0.1 (by simp)); have HO125 := am (Kd.R_lower (Kd.R_new' ho0 (Kd.R_lt (by refine rR ?_; exact (Kd.R_mono (fR (tR HO120 BK108)) (fun _ h_ => h_.1))))) (keep_size (w := w) (g := g) (row := none) (pY50))); replace HO120 := am (Kd.R_mono (Kd.R_told (Kd.R_oldK (IsS103.apart (show IsS103 w0 _ g s0_0 t122 from pY33) (by refine rR ?_; exact (Kd.R_mono (fR (tR HO120 BK108)) (fun _ h_ => h_.1))) (by decide)) hk) (Kd.R_base ho0)) (fun _ h_ => h_.1)); replace BK108 := am (KeepBut.blk hk (g' := gb108) (o := .cells #[.int .i64 1, .string t121, .slice none 0 0] 106 (0, 0)) (by refine rB ?_; refine blk_put (cs := #[.int .i64 1, .string x109001_26, .slice none 0 0]) ?_ 1 _ rfl; refine rB ?_; exact BK108.1) NB108_0.1 (by simp)); replace HK := am (KeepBut.trans (pY50) hk (.inl rfl)); replace HB := am (hb); replace HI0 := am (hi); (try clear hb); (try clear hk); (try clear hi); (try clear ho0); obtain ⟨Ao75, co75, eo75⟩ := Kd.R_slice HO125.1; subst eo75; obtain ⟨hcz76_0, hcz76_1, hcz76_2, hfz76_0, hfz76_1, hfz76_2⟩ := cz3 BK108))
           go_meet
           case rel => exact ⟨_, (t126), (1), (t121), (t123), (.slice Ao75 t123.length co75), H', ⟨by have := HJ4.out; have := HJ26.out; have := HJ35.out; have := HJ55.out; first | omega | exact Nat.le_refl _⟩, ⟨by refine rR ?_; exact Kd.R_mono (fR (tR HO125 BK108)) (fun _ hk => trivial)⟩, ⟨by refine rB ?_; refine blk_far ?_ NB101_108.1 _; refine rB ?_; exact BK101.1⟩, ⟨by refine rB ?_; refine blk_far ?_ NB102_108.1 _; refine rB ?_; exact BK102.1⟩, ⟨by refine rB ?_; refine blk_put (cs := #[.int .i64 1, .string t121, .slice none 0 0]) ?_ 2 _ rfl; refine rB ?_; exact BK108.1⟩, ⟨pY33⟩, ⟨pY50⟩, ⟨pY22⟩⟩
          ·replace H := iF H
           by_cases c77 : t116 = 3
           ·rw [if_pos c77] at H
            have c77b0 : (t116 == 3) = true := beq_iff_eq.mpr c77
            have c77b1 : (t116 != 3) = false := bne_eq_false_iff_eq.mpr c77
            clear c77
            obtain ⟨⟨t127, t130⟩, A78, H⟩ := bd H
            dsimp only at H
            have H' := am H
            clear H
            have hnb79 := NB108_101.1
            have hnc79 := NB101_108.1
            have hnb80 := NB108_102.1
            have hnc80 := NB102_108.1
            have hnb81 := NB108_0.1
            have hnc81 := NB0_108.1
            obtain ⟨hcz82_0, hcz82_1, hcz82_2, hfz82_0, hfz82_1, hfz82_2⟩ := cz3 BK108
            go_wp2_with (first | ((with_reducible refine gC 109 ?_); refine cE (some 71) Try.func109 (spec_l5Some.calls kj55 g s0_0 t117 _ _ x7_35 2 t127 t130 w0 _ ((pY33)) ((pY22)) (Kd.C_keep (⟨#[]⟩ : ByteArray) HR7m.1 (pY50) hf7m) HC7m.1 hf7m A78.out) ?_; rintro e w83 ⟨v128, rfl, ho0, hi, hb, hk⟩; refine ⟨_, rfl, ?_⟩; replace BK101 := am (KeepBut.blk hk (g' := gb101) (o := .cells #[.slice A1_0 l1_0.length c1_0, .slice A1_1 l1_1.length c1_1] 31 (0, 0)) (by refine rB ?_; refine blk_far ?_ NB101_108.1 _; refine rB ?_; exact BK101.1) NB101_0.1 (by simp)); replace BK102 := am (KeepBut.blk hk (g' := gb102) (o := .cells #[.int .i64 0, .string (⟨#[]⟩ : ByteArray), .slice none 0 0] 106 (0, 0)) (by refine rB ?_; refine blk_far ?_ NB102_108.1 _; refine rB ?_; exact BK102.1) NB102_0.1 (by simp)); replace BK108 := am (KeepBut.blk hk (g' := gb108) (o := .cells #[.int .i64 3, .string x109001_26, .slice none 0 0] 106 (0, 0)) (by refine rB ?_; refine blk_put (cs := #[.int .i64 2, .string x109001_26, .slice none 0 0]) ?_ 0 _ rfl; refine rB ?_; exact BK108.1) NB108_0.1 (by simp)); have HO129 := am (Kd.R_lower ho0 (keep_size (w := w) (g := g) (row := none) (pY50))); replace HK := am (KeepBut.trans (pY50) hk (.inl rfl)); replace HB := am (hb); replace HI0 := am (hi); (try clear hb); (try clear hk); (try clear hi); (try clear ho0); obtain ⟨Ao84, co84, eo84⟩ := Kd.R_slice HO129.1; subst eo84; obtain ⟨hcz85_0, hcz85_1, hcz85_2, hfz85_0, hfz85_1, hfz85_2⟩ := cz3 BK108))
            go_meet
            case rel => exact ⟨_, (t130), (3), (x109001_26), (t127), (.slice Ao84 t127.length co84), H', ⟨by have := HJ4.out; have := HJ26.out; have := HJ35.out; have := HJ55.out; first | omega | exact Nat.le_refl _⟩, ⟨by refine rR ?_; exact Kd.R_mono (fR (tR HO129 BK108)) (fun _ hk => trivial)⟩, ⟨by refine rB ?_; refine blk_far ?_ NB101_108.1 _; refine rB ?_; exact BK101.1⟩, ⟨by refine rB ?_; refine blk_far ?_ NB102_108.1 _; refine rB ?_; exact BK102.1⟩, ⟨by refine rB ?_; refine blk_put (cs := #[.int .i64 3, .string x109001_26, .slice none 0 0]) ?_ 2 _ rfl; refine rB ?_; exact BK108.1⟩, ⟨pY33⟩, ⟨pY50⟩, ⟨pY22⟩⟩
           ·rw [if_neg c77] at H
            have c77b0 : (t116 == 3) = false := beq_eq_false_iff_ne.mpr c77
            have c77b1 : (t116 != 3) = true := bne_iff_ne.mpr c77
            by_cases c86 : t116 = 4
            ·rw [if_pos c86] at H
             have c86b0 : (t116 == 4) = true := beq_iff_eq.mpr c86
             have c86b1 : (t116 != 4) = false := bne_eq_false_iff_eq.mpr c86
             clear c86
             have H' := am H
             clear H
             have hnb87 := NB108_101.1
             have hnc87 := NB101_108.1
             have hnb88 := NB108_102.1
             have hnc88 := NB102_108.1
             have hnb89 := NB108_0.1
             have hnc89 := NB0_108.1
             obtain ⟨hcz90_0, hcz90_1, hcz90_2, hfz90_0, hfz90_1, hfz90_2⟩ := cz3 BK108
             go_wp2
             go_meet
             case rel => exact ⟨_, (t117), (4), (x109001_26), (([] : List ByteArray)), (.slice none 0 0), H', ⟨by have := HJ4.out; have := HJ26.out; have := HJ35.out; have := HJ55.out; first | omega | exact Nat.le_refl _⟩, ⟨by first | exact Kd.R_nil _ _ _ _ _ | exact Kd.N_nil _ _ _ _ _ | exact Kd.V_nil _ _ _ _ _ | exact Kd.Q_nil _ _ _ _ _ | exact Kd.S_nil _ _ _ _ _⟩, ⟨by refine rB ?_; refine blk_far ?_ NB101_108.1 _; refine rB ?_; exact BK101.1⟩, ⟨by refine rB ?_; refine blk_far ?_ NB102_108.1 _; refine rB ?_; exact BK102.1⟩, ⟨by refine rB ?_; refine blk_put (cs := #[.int .i64 2, .string x109001_26, .slice none 0 0]) ?_ 0 _ rfl; refine rB ?_; exact BK108.1⟩, ⟨pY33⟩, ⟨pY50⟩, ⟨pY22⟩⟩
            ·rw [if_neg c86] at H
             have c86b0 : (t116 == 4) = false := beq_eq_false_iff_ne.mpr c86
             have c86b1 : (t116 != 4) = true := bne_iff_ne.mpr c86
             obtain ⟨⟨t131, t134⟩, A91, H⟩ := bd H
             dsimp only at H
             have H' := am H
             clear H
             go_wp2_with (first | ((with_reducible refine gC 109 ?_); refine cE (some 50) Try.func109 (spec_l5Some.calls kj55 g s0_0 t117 _ _ x7_35 2 t131 t134 w0 _ ((pY33)) ((pY22)) (Kd.C_keep (⟨#[]⟩ : ByteArray) HR7m.1 (pY50) hf7m) HC7m.1 hf7m A91.out) ?_; rintro e w92 ⟨v132, rfl, ho0, hi, hb, hk⟩; refine ⟨_, rfl, ?_⟩; replace BK101 := kb pY98 hk NB101_0; replace BK102 := kb pY99 hk NB102_0; replace BK108 := kb pY100 hk NB108_0; have HO133 := am (Kd.R_lower ho0 (keep_size (w := w) (g := g) (row := none) (pY50))); replace HK := am (KeepBut.trans (pY50) hk (.inl rfl)); replace HB := am (hb); replace HI0 := am (hi); (try clear hb); (try clear hk); (try clear hi); (try clear ho0); obtain ⟨Ao93, co93, eo93⟩ := Kd.R_slice HO133.1; subst eo93; have hnb94 := NB108_101.1; have hnc94 := NB101_108.1; have hnb95 := NB108_102.1; have hnc95 := NB102_108.1; have hnb96 := NB108_0.1; have hnc96 := NB0_108.1; obtain ⟨hcz97_0, hcz97_1, hcz97_2, hfz97_0, hfz97_1, hfz97_2⟩ := cz3 BK108))
             go_meet
             case rel => exact ⟨_, (t134), (2), (x109001_26), (t131), (.slice Ao93 t131.length co93), H', ⟨by have := HJ4.out; have := HJ26.out; have := HJ35.out; have := HJ55.out; first | omega | exact Nat.le_refl _⟩, ⟨by refine rR ?_; exact Kd.R_mono (fR (tR HO133 BK108)) (fun _ hk => trivial)⟩, ⟨by refine rB ?_; refine blk_far ?_ NB101_108.1 _; refine rB ?_; exact BK101.1⟩, ⟨by refine rB ?_; refine blk_far ?_ NB102_108.1 _; refine rB ?_; exact BK102.1⟩, ⟨by refine rB ?_; refine blk_put (cs := #[.int .i64 2, .string x109001_26, .slice none 0 0]) ?_ 2 _ rfl; refine rB ?_; exact BK108.1⟩, ⟨pY33⟩, ⟨pY50⟩, ⟨pY22⟩⟩
       case rest =>
        clear HC54
        try clear hcz15_0 hcz15_1 hcz15_2 hfz15_0 hfz15_1 hfz15_2
        try clear hcz40_0 hcz40_1 hfz40_0 hfz40_1
        try clear hcz43_0 hcz43_1 hcz43_2 hfz43_0 hfz43_1 hfz43_2
        try clear hcz45_0 hcz45_1 hfz45_0 hfz45_1
        obtain ⟨kq, x1001_53, x109000_53, x109001_53, x109002_53, u109002, HA, HJ53, HO_109002, BK101, BK102, BK108, HI0, HK, HB⟩ := hcut
        cases kq with
        | zero => exact absurd HA.out (by simp [spec_l5Does.j4])
        | succ kj53 =>
         have H := HA.out
         clear HA
         simp only [spec_l5Does.j4] at H
         obtain ⟨⟨t135, t136⟩, A98, H⟩ := bd H
         dsimp only at H
         by_cases c99 : t135 = 0
         rw [if_pos c99] at H
         have c99b0 : (t135 == 0) = true := beq_iff_eq.mpr c99
         have c99b1 : (t135 != 0) = false := bne_eq_false_iff_eq.mpr c99
         clear c99
         obtain ⟨y137, Ny137⟩ := yv (([(⟨#[]⟩ : ByteArray), (⟨#[97]⟩ : ByteArray), (⟨#[122, 122]⟩ : ByteArray), (⟨#[116, 117, 110]⟩ : ByteArray)] : List ByteArray)); first | replace H := bW Ny137 H | rw [← Ny137.1] at H
         obtain ⟨⟨t140, t141⟩, A100, H⟩ := bd H
         dsimp only at H
         by_cases c101 : x109002_53.length < 8796093022208
         rw [if_pos c101] at H
         have LMc101 := am c101
         clear c101
         obtain ⟨y142, Ny142⟩ := yv (x109002_53 ++ [t140]); first | replace H := bW Ny142 H | rw [← Ny142.1] at H
         simp only [Option.some.injEq, Prod.mk.injEq] at H
         obtain ⟨rfl, rfl, rfl, rfl⟩ := H
         have M18_ := trivial
         rotate_left
         rw [if_neg c101] at H
         exact absurd H (by simp)
         rw [if_neg c99] at H
         have c99b0 : (t135 == 0) = false := beq_eq_false_iff_ne.mpr c99
         have c99b1 : (t135 != 0) = true := bne_iff_ne.mpr c99
         by_cases c118 : t135 = 1
         rw [if_pos c118] at H
         have c118b0 : (t135 == 1) = true := beq_iff_eq.mpr c118
         have c118b1 : (t135 != 1) = false := bne_eq_false_iff_eq.mpr c118
         clear c118
         obtain ⟨y145, Ny145⟩ := yv (([(⟨#[]⟩ : ByteArray), (⟨#[65]⟩ : ByteArray), (⟨#[122, 122]⟩ : ByteArray)] : List ByteArray)); first | replace H := bW Ny145 H | rw [← Ny145.1] at H
         obtain ⟨⟨t148, t149⟩, A119, H⟩ := bd H
         dsimp only at H
         simp only [Option.some.injEq, Prod.mk.injEq] at H
         obtain ⟨rfl, rfl, rfl, rfl⟩ := H
         have M18_ := trivial
         rotate_left
         rw [if_neg c118] at H
         have c118b0 : (t135 == 1) = false := beq_eq_false_iff_ne.mpr c118
         have c118b1 : (t135 != 1) = true := bne_iff_ne.mpr c118
         simp only [Option.some.injEq, Prod.mk.injEq] at H
         obtain ⟨rfl, rfl, rfl, rfl⟩ := H
         have M21_ := trivial
         rotate_left
         all_goals
          try go_wp2_with (first | ((with_reducible refine gC 100 ?_); clear M18_; refine cQ (some 77) Try.func100 (spec_l1Rd_pick.calls kj53 g s0_0 x1001_53 24 t135 t136 w0 _ ((pY33)) ((pY22)) A98.out) ?_; rintro w1720 ⟨hi, hb, hk⟩; replace HO_109002 := am (Kd.R_mono (Kd.R_keep (IsS103.apart (show IsS103 w0 _ g s0_0 x1001_53 from pY33) (pY108) (by decide)) hk (fun _ h => h.2)) (fun _ h => h.1)); replace BK101 := kb pY98 hk NB101_0; replace BK102 := kb pY99 hk NB102_0; replace BK108 := kb pY100 hk NB108_0; replace HK := am (KeepBut.trans (pY50) hk (.inl rfl)); replace HB := am (hb); replace HI0 := am (hi); (try clear hb); (try clear hk); (try clear hi)) | ((with_reducible refine gate_dst (N := 91) rfl ?_); refine Kd.R_lit Kd.string _ 9 ?hg (N := 91) ?hd (xs := ([(⟨#[]⟩ : ByteArray), (⟨#[65]⟩ : ByteArray), (⟨#[122, 122]⟩ : ByteArray)] : List ByteArray)) (inner := [.string (⟨#[]⟩ : ByteArray), .string (⟨#[65]⟩ : ByteArray), .string (⟨#[122, 122]⟩ : ByteArray)]) (ok := fun _ => True) (okp := fun _ => True) ?hr ?hp (fun _ hk => hk) trivial (Below.refl _ _) (Nat.le_refl _) (by simp) ?_; (case hd => rfl); (case hg => rfl); (case hr => first | (go_simp; done) | (go_simp; rfl)); (case hp => exact (Reps.one (show Kd.M Kd.string _ _ _ (⟨#[]⟩ : ByteArray) [.string (⟨#[]⟩ : ByteArray)] from rfl) (Reps.one (show Kd.M Kd.string _ _ _ (⟨#[65]⟩ : ByteArray) [.string (⟨#[65]⟩ : ByteArray)] from rfl) (Reps.one (show Kd.M Kd.string _ _ _ (⟨#[122, 122]⟩ : ByteArray) [.string (⟨#[122, 122]⟩ : ByteArray)] from rfl) (Reps.none _ _))))); intro v146 w1760 ho122 hb hg_ hnew_; clear hg_ hnew_; (first | rw [← Ny145.out] at ho122 | (simp only [Int.reduceToNat] at ho122; rw [← Ny145.out] at ho122)); have HO147 := am (Kd.R_lower (Kd.R_new' ho122 (Kd.R_lt (pY108))) (keep_size (w := w) (g := g) (row := none) (pY50))); replace HO_109002 := am (Kd.R_elder' (pY108) (Kd.R_base ho122) hb); replace BK101 := bB pY98 hb; replace BK102 := bB pY99 hb; replace BK108 := bB pY100 hb; replace HK := am (KeepBut.trans (pY50) (KeepBut.of_below hb g none) (.inl rfl)); replace HB := bS pY22 hb; replace HI0 := am (IsS103.below (pY33) hb); clear hb ho122; obtain ⟨Ao1761, co1762, eo1763⟩ := Kd.R_slice HO147.1; subst eo1763) | ((with_reducible refine gC 101 ?_); refine cQ (some 92) Try.func101 (spec_l1Rd_of.calls kj53 g s0_0 t136 _ _ y145 t148 t149 w0 _ ((pY33)) ((pY22)) (pC (Kd.R_reads' HO147.1).2.2) ((Kd.R_reads' HO147.1).2.1) (far_slice (IsS103.own_ne HI0.out HO147.1 (by decide))) A119.out) ?_; rintro w1800 ⟨hi, hb, hk⟩; replace HO_109002 := am (Kd.R_mono (Kd.R_keep (IsS103.apart (show IsS103 w0 _ g s0_0 t136 from pY33) (pY108) (by decide)) hk (fun _ h => h.2)) (fun _ h => h.1)); replace BK101 := kb pY98 hk NB101_0; replace BK102 := kb pY99 hk NB102_0; replace BK108 := kb pY100 hk NB108_0; replace HO147 := am (Kd.R_mono (Kd.R_keep (IsS103.apart (show IsS103 w0 _ g s0_0 t136 from pY33) (rR HO147.1) (by decide)) hk (fun _ h => h.2)) (fun _ h => h.1)); replace HK := am (KeepBut.trans (pY50) hk (.inl rfl)); replace HB := am (hb); replace HI0 := am (hi); (try clear hb); (try clear hk); (try clear hi); have hnb1801 := NB108_101.1; have hnc1802 := NB101_108.1; have hnb1803 := NB108_102.1; have hnc1804 := NB102_108.1; have hnb1805 := NB108_0.1; have hnc1806 := NB0_108.1; obtain ⟨hcz1807_0, hcz1807_1, hcz1807_2, hfz1808_0, hfz1808_1, hfz1808_2⟩ := cz3 BK108; have hnb1809 := NB102_101.1; have hnc1810 := NB101_102.1; have hnb1811 := NB102_0.1; have hnc1812 := NB0_102.1; obtain ⟨hcz1813_0, hcz1813_1, hcz1813_2, hfz1814_0, hfz1814_1, hfz1814_2⟩ := cz3 BK102; obtain ⟨Ao1815, co1816, eo1817⟩ := Kd.R_slice HO_109002.1; subst eo1817) | ((with_reducible refine gC 100 ?_); clear M21_; refine cQ (some 77) Try.func100 (spec_l1Rd_pick.calls kj53 g s0_0 x1001_53 24 t135 t136 w0 _ ((pY33)) ((pY22)) A98.out) ?_; rintro w1840 ⟨hi, hb, hk⟩; replace HO_109002 := am (Kd.R_mono (Kd.R_keep (IsS103.apart (show IsS103 w0 _ g s0_0 x1001_53 from pY33) (pY108) (by decide)) hk (fun _ h => h.2)) (fun _ h => h.1)); replace BK101 := kb pY98 hk NB101_0; replace BK102 := kb pY99 hk NB102_0; replace BK108 := kb pY100 hk NB108_0; replace HK := am (KeepBut.trans (pY50) hk (.inl rfl)); replace HB := am (hb); replace HI0 := am (hi); (try clear hb); (try clear hk); (try clear hi); have hnb1841 := NB108_101.1; have hnc1842 := NB101_108.1; have hnb1843 := NB108_102.1; have hnc1844 := NB102_108.1; have hnb1845 := NB108_0.1; have hnc1846 := NB0_108.1; obtain ⟨hcz1847_0, hcz1847_1, hcz1847_2, hfz1848_0, hfz1848_1, hfz1848_2⟩ := cz3 BK108; have hnb1849 := NB102_101.1; have hnc1850 := NB101_102.1; have hnb1851 := NB102_0.1; have hnc1852 := NB0_102.1; obtain ⟨hcz1853_0, hcz1853_1, hcz1853_2, hfz1854_0, hfz1854_1, hfz1854_2⟩ := cz3 BK102; obtain ⟨Ao1855, co1856, eo1857⟩ := Kd.R_slice HO_109002.1; subst eo1857))
         ·replace HO_109002 := am (Kd.R_drew HO_109002.1)
          replace BK101 := am (blk_drew BK101.1)
          replace BK102 := am (blk_drew BK102.1)
          replace BK108 := am (blk_drew BK108.1)
          replace HI0 := am (IsS103.drew HI0.out)
          replace HK := am (keep_drew HK.out)
          replace HB := am (below_drew1 HB.1)
          refine sT [8] 9 (uA3 BK108) (fun hHeld => ?_); refine with_tabW spec_l5Does.tab23 spec_l5Does.bits23 (fun HT_ HW_ => ?_)
          generalize w1720.drew = w103 at HO_109002 BK101 BK102 BK108 HI0 HK HB hHeld ⊢
          refine pU 0 (some 80) ?_
          refine pU 2 (some 82) ?_
          refine tK3 1 (some 81) ?_
          refine oN 3 (some 83) fun K hK => ?_
          refine Kd.R_lit_step Kd.string _ 9 ?hg (N := 83) ?hd (xs := ([(⟨#[]⟩ : ByteArray), (⟨#[97]⟩ : ByteArray), (⟨#[122, 122]⟩ : ByteArray), (⟨#[116, 117, 110]⟩ : ByteArray)] : List ByteArray)) (inner := [.string (⟨#[]⟩ : ByteArray), .string (⟨#[97]⟩ : ByteArray), .string (⟨#[122, 122]⟩ : ByteArray), .string (⟨#[116, 117, 110]⟩ : ByteArray)]) (ok := fun _ => True) (okp := fun _ => True) ?hr ?hp (fun _ hk => hk) trivial (Below.refl _ _) (Nat.le_refl _) (by simp) ?_; (case hd => rfl); (case hg => rfl); (case hr => first | (go_simp; done) | (go_simp; rfl)); (case hp => exact (Reps.one (show Kd.M Kd.string _ _ _ (⟨#[]⟩ : ByteArray) [.string (⟨#[]⟩ : ByteArray)] from rfl) (Reps.one (show Kd.M Kd.string _ _ _ (⟨#[97]⟩ : ByteArray) [.string (⟨#[97]⟩ : ByteArray)] from rfl) (Reps.one (show Kd.M Kd.string _ _ _ (⟨#[122, 122]⟩ : ByteArray) [.string (⟨#[122, 122]⟩ : ByteArray)] from rfl) (Reps.one (show Kd.M Kd.string _ _ _ (⟨#[116, 117, 110]⟩ : ByteArray) [.string (⟨#[116, 117, 110]⟩ : ByteArray)] from rfl) (Reps.none _ _))))))
          intro v138 w104 ho105 hb hg_ hnew_
          clear hg_ hnew_
          (first | rw [← Ny137.out] at ho105 | (simp only [Int.reduceToNat] at ho105; rw [← Ny137.out] at ho105))
          have HO139 := am (Kd.R_lower (Kd.R_new' ho105 (Kd.R_lt (pY108))) (keep_size (w := w) (g := g) (row := none) (pY50)))
          replace HO_109002 := am (Kd.R_elder' (pY108) (Kd.R_base ho105) hb)
          replace BK101 := bB pY98 hb
          replace BK102 := bB pY99 hb
          replace BK108 := bB pY100 hb
          replace HK := am (KeepBut.trans (pY50) (KeepBut.of_below hb g none) (.inl rfl))
          replace HB := bS pY22 hb
          replace HI0 := am (IsS103.below (pY33) hb)
          clear hb ho105
          obtain ⟨Ao106, co106, eo106⟩ := Kd.R_slice HO139.1
          (first | subst eo106 | (injection eo106 with f1_ f2_ f3_; have f4_ := f1_.symm; have f5_ := f3_.symm; clear f1_ f2_ f3_; subst f4_; subst f5_))
          refine hK.out _ _ (uA3 BK108).1 (fun hHeld => ?_)
          clear hK K
          refine nM ?_
          refine oN 4 (some 84) fun K hK => ?_
          refine gQ Try.func101 (spec_l1Rd_of.calls kj53 g s0_0 t136 _ _ y137 t140 t141 w0 _ ((pY33)) ((pY22)) (pC (Kd.R_reads' HO139.1).2.2) ((Kd.R_reads' HO139.1).2.1) (far_slice (IsS103.own_ne HI0.out HO139.1 (by decide))) A100.out) ?_
          rintro w107 ⟨hi, hb, hk⟩
          replace HO_109002 := am (Kd.R_mono (Kd.R_keep (IsS103.apart (show IsS103 w0 _ g s0_0 t136 from pY33) (pY108) (by decide)) hk (fun _ h => h.2)) (fun _ h => h.1))
          replace BK101 := kb pY98 hk NB101_0
          replace BK102 := kb pY99 hk NB102_0
          replace BK108 := kb pY100 hk NB108_0
          replace HO139 := am (Kd.R_mono (Kd.R_keep (IsS103.apart (show IsS103 w0 _ g s0_0 t136 from pY33) (rR HO139.1) (by decide)) hk (fun _ h => h.2)) (fun _ h => h.1))
          replace HK := am (KeepBut.trans (pY50) hk (.inl rfl))
          replace HB := am (hb)
          replace HI0 := am (hi)
          (try clear hb)
          (try clear hb2)
          (try clear hk)
          (try clear hi)
          refine hK.out _ _ (uA3 BK108).1 (fun hHeld => ?_)
          clear hK K
          refine nM ?_
          refine oN 5 (some 85) fun K hK => ?_
          refine value_ (w1 := ?_) (v := ?_) (by rfl) rfl ?_ ?_
          rotate_left 2
          ·go_simp
           constructor
           ·rfl
           ·rfl
          refine hK.out _ _ ⟨(blk_cell (blk_alloc BK108.1 _) 0).trans rfl, (blk_cell (blk_alloc BK108.1 _) 1).trans rfl, (blk_cell (blk_alloc BK108.1 _) 2).trans rfl⟩ (fun hHeld => ?_)
          clear hK K
          refine nM ?_
          refine oN 6 (some 86) fun K hK => ?_
          refine Kd.R_append_step Kd.string w.heap.size (by rfl) (.tmp 81) (.tmp 85) 23 9 (.string ⟨#[]⟩) 16 rfl Try.underlying23 info9 rfl (by decide) (by omega) u109002 x109002_53 t140 [.string t140] (fun k_ => some k_ ≠ (.slice Ao106 y137.length co106 : Value).ownBlock) (fun _ => False) rfl rfl ?aP (fun _ hk => hk.elim) ?aF ?aO (Below.refl _ _) ?aS ?aL ?_
          (case aP => exact rfl)
          (case aF => exact (fun k_ hk => Kd.fresh' (Kd.R_lt (rR HO139.1)) k_ hk))
          (case aO => exact (by refine rR ?_; exact Kd.R_mono HO_109002.1 (fun _ hk => hk.2)))
          (case aS => exact (keep_size (w := w) (g := g) (row := none) (pY50)))
          (case aL => have := LMc101.out; omega)
          intro v143 w108 ho hb hg hat
          rw [← Ny142.out] at ho
          replace BK101 := gR pY98 hg HO_109002 BK101
          replace BK102 := gR pY99 hg HO_109002 BK102
          replace BK108 := gR pY100 hg HO_109002 BK108
          replace HO139 := am (Kd.R_after (ok := (fun _ => True)) (rR HO139.1) hg hat)
          replace HB := am (below_weaken (pY22) HL.out hb)
          replace HI0 := am (IsS103.grown (pY33) hg (IsS103.own_ne HI0.out HO_109002.1 (by decide)))
          replace HK := am (KeepBut.trans (pY50) (KeepBut.of_grown hg g) (Kd.R_base2 HO_109002.1))
          have HO144 := am (ho)
          clear HO_109002
          clear ho hb hg hat
          obtain ⟨Ao109, co109, eo109⟩ := Kd.R_slice HO144.1
          (first | subst eo109 | (injection eo109 with f1_ f2_ f3_; have f4_ := f1_.symm; have f5_ := f3_.symm; clear f1_ f2_ f3_; subst f4_; subst f5_))
          refine hK.out _ _ (uA3 BK108).1 (fun hHeld => ?_)
          clear hK K
          refine nM ?_
          refine pU 7 (some 87) ?_
          refine last_ (i := 8) (N := none) (bz 9 511) rfl rfl (one_of HT_.out (by kernel_rfl)) (by decide) (fun K hK => ?_)
          have hs110 : w108.cell? ⟨gb108, 2, none⟩ = some (u109002) := (blk_cell BK108.1 2).trans rfl
          have hfs110 := blk_frozen BK108.1 2
          have hns110_0 := NB101_108.1
          have hns110_1 := NB102_108.1
          have hms110_0 := NB108_101.1
          have hms110_1 := NB108_102.1
          refine skip_ (w1 := ?_) (by rfl) rfl ?_ ?_
          rotate_left
          ·go_simp
           rfl
          refine hK.out _ _ ?_
          clear hK K
          refine done_ (done_of HT_.out (by kernel_rfl)) ?_
          have hnb111 := NB108_101.1
          have hnc111 := NB101_108.1
          have hnb112 := NB108_102.1
          have hnc112 := NB102_108.1
          have hnb113 := NB108_0.1
          have hnc113 := NB0_108.1
          obtain ⟨hcz114_0, hcz114_1, hcz114_2, hfz114_0, hfz114_1, hfz114_2⟩ := cz3 BK108
          have hnb115 := NB102_101.1
          have hnc115 := NB101_102.1
          have hnb116 := NB102_0.1
          have hnc116 := NB0_102.1
          obtain ⟨hcz117_0, hcz117_1, hcz117_2, hfz117_0, hfz117_1, hfz117_2⟩ := cz3 BK102
          try go_wp2
          refine bodyPost_ret (results_cell_row rfl _ _ gb102 106 #[.int .i64 x109000_53, .string x109001_53, .slice Ao109 y142.length co109] (0, 0) _ rfl (by refine rB ?_; refine blk_put (cs := #[.int .i64 x109000_53, .string x109001_53, .slice none 0 0]) ?_ 2 _ rfl; refine rB ?_; refine blk_put (cs := #[.int .i64 x109000_53, .string (⟨#[]⟩ : ByteArray), .slice none 0 0]) ?_ 1 _ rfl; refine rB ?_; refine blk_put (cs := #[.int .i64 0, .string (⟨#[]⟩ : ByteArray), .slice none 0 0]) ?_ 0 _ rfl; refine rB ?_; refine blk_far ?_ NB102_108.1 _; refine rB ?_; exact BK102.1) Try.underlying106 rfl (by kernel_rfl)) rfl ?_
          exact ⟨_, eR, by refine rR ?_; exact Kd.R_mono (fR (fR (fR (Kd.R_far (p := ⟨gb108, 2, none⟩) (Kd.R_types (tR HO144 BK108) BK102.1 (by decide)) (fun _ hk => hk.1.2) (.slice Ao109 y142.length co109))))) (fun _ hk => trivial), pY33, pY22, pY50⟩
         ·refine bodyPost_ret (results_cell_row rfl _ _ gb102 106 #[.int .i64 x109000_53, .string t148, .slice Ao1815 x109002_53.length co1816] (0, 0) _ rfl (by refine rB ?_; refine blk_put (cs := #[.int .i64 x109000_53, .string t148, .slice none 0 0]) ?_ 2 _ rfl; refine rB ?_; refine blk_put (cs := #[.int .i64 x109000_53, .string (⟨#[]⟩ : ByteArray), .slice none 0 0]) ?_ 1 _ rfl; refine rB ?_; refine blk_put (cs := #[.int .i64 0, .string (⟨#[]⟩ : ByteArray), .slice none 0 0]) ?_ 0 _ rfl; refine rB ?_; refine blk_far ?_ NB102_108.1 _; refine rB ?_; exact BK102.1) Try.underlying106 rfl (by kernel_rfl)) rfl ?_
          exact ⟨_, eR, by refine rR ?_; exact Kd.R_mono (fR (fR (fR (Kd.R_far (p := ⟨gb108, 1, none⟩) (Kd.R_types (tR HO_109002 BK108) BK102.1 (by decide)) (fun _ hk => hk.1.2) (.string t148))))) (fun _ hk => trivial), pY33, pY22, pY50⟩
         ·refine bodyPost_ret (results_cell_row rfl _ _ gb102 106 #[.int .i64 x109000_53, .string x109001_53, .slice Ao1855 x109002_53.length co1856] (0, 0) _ rfl (by refine rB ?_; refine blk_put (cs := #[.int .i64 x109000_53, .string x109001_53, .slice none 0 0]) ?_ 2 _ rfl; refine rB ?_; refine blk_put (cs := #[.int .i64 x109000_53, .string (⟨#[]⟩ : ByteArray), .slice none 0 0]) ?_ 1 _ rfl; refine rB ?_; refine blk_put (cs := #[.int .i64 0, .string (⟨#[]⟩ : ByteArray), .slice none 0 0]) ?_ 0 _ rfl; refine rB ?_; exact BK102.1) Try.underlying106 rfl (by kernel_rfl)) rfl ?_
          exact ⟨_, eR, by refine rR ?_; exact Kd.R_mono (fR (fR (fR (tR HO_109002 BK102)))) (fun _ hk => trivial), pY33, pY22, pY50⟩
end Go.Proofs.Ytaofjgnhapnndaa.Q
namespace Go.Proofs.Ytaofjgnhapnndaa.Q
open Go.RowKit Go.Proofs.YtaofjgnhapnndaaW.PrintWords Go.Proofs.YtaofjgnhapnndaaW.PrintLast Go.Proofs.YtaofjgnhapnndaaW.PrintMore
set_option linter.unusedVariables false
set_option linter.unusedSimpArgs false
def spec_l5Base.l0 : Nat → List ByteArray → Int → List Int → Int → List ByteArray → Option (List ByteArray × (List (S56)) × Int)
 | 0, _, _, _, _, _ => none
 | k + 1, x4, x5, x1000, x1001, x103000 => if x5 < (x4.length : Int) then ((spec_l1Rd_pick.f k x1000 x1001 5).bind fun bt106 => (if bt106.1 > 0 then (if 0 ≤ x5 then (if x103000.length < 8796093022208 then (spec_l5Base.l0 k x4 (wrap64 (x5 + 1)) x1000 bt106.2 (x103000 ++ [rdOf ByteArray.empty x4 x5])) else (none)) else (none)) else (spec_l5Base.l0 k x4 (wrap64 (x5 + 1)) x1000 bt106.2 x103000))) else (some (x103000, ([] : List (S56)), x1001))
def spec_l5Base.f (k : Nat) (s0_0 : List Int) (s0_1 : Int) : Option (List ByteArray × (List (S56)) × Int) := spec_l5Base.l0 k (([(⟨#[106]⟩ : ByteArray), (⟨#[107, 101, 103]⟩ : ByteArray), (⟨#[116, 117, 110]⟩ : ByteArray), (⟨#[118, 97, 116]⟩ : ByteArray), (⟨#[119]⟩ : ByteArray)] : List ByteArray)) 0 s0_0 s0_1 ([] : List ByteArray)
def spec_l5Base.T7 : Bool × List (List Nat × List Nat) := (true, [([], []), ([0], [0]), ([], []), ([], []), ([2, 3], [2, 3]), ([4], [4]), ([5], [5]), ([1, 6], [1, 6]), ([0, 1, 2, 3, 4, 5, 6, 7], []), ([8, 7, 7, 0, 1, 2, 3, 4, 5, 6, 7], [7, 8])])
def spec_l5Base.B7 : List Nat := [0, 1, 0, 0, 12, 28, 60, 127, 255, 511]
theorem spec_l5Base.tab7 : rtab .any (opsOf Try.f128 7) = spec_l5Base.T7 := by kernel_rfl
theorem spec_l5Base.bits7 : waitsOk spec_l5Base.T7.2 spec_l5Base.B7 = true := by kernel_rfl
theorem spec_l5Base.calls (k : Nat) (g : Nat) (s0_0 : List Int) (s0_1 : Int) (r1 : List ByteArray) (r2 : List (S56)) (r3 : Int) (w0 w : World) (hI : IsS103 w0 w g s0_0 s0_1) (hB : Below w0.heap.size w0 w) (h : spec_l5Base.f k s0_0 s0_1 = some (r1, r2, r3)) :
  Calls Try.prog 128 #[.pointer (some ⟨g, 0, none⟩)] w fun e w' => ∃ v0_ : Value, e = .returned (.agg #[v0_, .slice none 0 0]) ∧ Kd.R Kd.string 9 w' w.heap.size (fun _ => True) v0_ r1 ∧ IsS103 w0 w' g s0_0 r3 ∧ Below w0.heap.size w0 w' ∧ KeepBut w w' g none := by
 have hu31 := Try.underlying31
 have HI0 := am hI
 have HK := am (KeepBut.refl w g none)
 have HL := am hB.size
 clear hI
 have HW0 := am hB.size
 have HB := am hB
 clear hB
 unfold spec_l5Base.f at h
 have H := h
 clear h
 obtain ⟨y103, Ny103⟩ := yv (([(⟨#[106]⟩ : ByteArray), (⟨#[107, 101, 103]⟩ : ByteArray), (⟨#[116, 117, 110]⟩ : ByteArray), (⟨#[118, 97, 116]⟩ : ByteArray), (⟨#[119]⟩ : ByteArray)] : List ByteArray)); first | replace H := bW Ny103 H | rw [← Ny103.1] at H
 have H' := am H
 clear H
 go_enter Try.func128, Try.ntmps128
 go_wp2_with (first | ((with_reducible refine gD 2 ?_); refine bX 2 #[.slice none 0 0, .slice none 0 0] 31 ?_; intro gb101 hg w2 hbox hb; replace HB := bS pY88 hb; have BK101 := am (hbox); have GW101 := am (pY74 : w.heap.size ≤ gb101); have GE101 := am (Nat.le_trans HW0.out (pY74 : w.heap.size ≤ gb101) : w0.heap.size ≤ gb101); replace HK := am (KeepBut.trans (pY93) (KeepBut.of_below hb g none) (.inl rfl)); have NB0_101 := am (by rw [hg]; exact Nat.ne_of_lt (IsS103.lt (show IsS103 w0 _ g s0_0 s0_1 from pY92)) : g ≠ gb101); have NB101_0 := am (by rw [hg]; exact Nat.ne_of_gt (IsS103.lt (show IsS103 w0 _ g s0_0 s0_1 from pY92)) : gb101 ≠ g); replace HI0 := am (IsS103.below (pY92) hb); clear hb hbox hg) | ((with_reducible refine gD 3 ?_); refine bX 3 #[.slice none 0 0, .slice none 0 0] 31 ?_; intro gb102 hg w3 hbox hb; replace HB := bS pY76 hb; have BK102 := am (hbox); have GW102 := am (pY54 : w.heap.size ≤ gb102); have GE102 := am (Nat.le_trans HW0.out (pY54 : w.heap.size ≤ gb102) : w0.heap.size ≤ gb102); replace HK := am (KeepBut.trans (pY87) (KeepBut.of_below hb g none) (.inl rfl)); have NB101_102 := nL pY98 hg; have NB102_101 := nG pY98 hg; replace BK101 := bB pY98 hb; have NB0_102 := am (by rw [hg]; exact Nat.ne_of_lt (IsS103.lt (show IsS103 w0 _ g s0_0 s0_1 from pY85)) : g ≠ gb102); have NB102_0 := am (by rw [hg]; exact Nat.ne_of_gt (IsS103.lt (show IsS103 w0 _ g s0_0 s0_1 from pY85)) : gb102 ≠ g); replace HI0 := am (IsS103.below (pY85) hb); clear hb hbox hg; have hnb4 := NB102_101.1; have hnc4 := NB101_102.1; have hnb5 := NB102_0.1; have hnc5 := NB0_102.1; obtain ⟨hcz6_0, hcz6_1, hfz6_0, hfz6_1⟩ := cz2 BK102) | ((with_reducible refine gate_dst (N := 7) rfl ?_); refine Kd.R_lit Kd.string _ 9 ?hg (N := 7) ?hd (xs := ([(⟨#[106]⟩ : ByteArray), (⟨#[107, 101, 103]⟩ : ByteArray), (⟨#[116, 117, 110]⟩ : ByteArray), (⟨#[118, 97, 116]⟩ : ByteArray), (⟨#[119]⟩ : ByteArray)] : List ByteArray)) (inner := [.string (⟨#[106]⟩ : ByteArray), .string (⟨#[107, 101, 103]⟩ : ByteArray), .string (⟨#[116, 117, 110]⟩ : ByteArray), .string (⟨#[118, 97, 116]⟩ : ByteArray), .string (⟨#[119]⟩ : ByteArray)]) (ok := fun _ => True) (okp := fun _ => True) ?hr ?hp (fun _ hk => hk) trivial (Below.refl _ _) (Nat.le_refl _) (by simp) ?_; (case hd => rfl); (case hg => rfl); (case hr => first | (go_simp; done) | (go_simp; rfl)); (case hp => exact (Reps.one (show Kd.M Kd.string _ _ _ (⟨#[106]⟩ : ByteArray) [.string (⟨#[106]⟩ : ByteArray)] from rfl) (Reps.one (show Kd.M Kd.string _ _ _ (⟨#[107, 101, 103]⟩ : ByteArray) [.string (⟨#[107, 101, 103]⟩ : ByteArray)] from rfl) (Reps.one (show Kd.M Kd.string _ _ _ (⟨#[116, 117, 110]⟩ : ByteArray) [.string (⟨#[116, 117, 110]⟩ : ByteArray)] from rfl) (Reps.one (show Kd.M Kd.string _ _ _ (⟨#[118, 97, 116]⟩ : ByteArray) [.string (⟨#[118, 97, 116]⟩ : ByteArray)] from rfl) (Reps.one (show Kd.M Kd.string _ _ _ (⟨#[119]⟩ : ByteArray) [.string (⟨#[119]⟩ : ByteArray)] from rfl) (Reps.none _ _))))))); intro v104 w7 ho8 hb hg_ hnew_; clear hg_ hnew_; (first | rw [← Ny103.out] at ho8 | (simp only [Int.reduceToNat] at ho8; rw [← Ny103.out] at ho8)); have HO105 := am (Kd.R_lower ho8 (keep_size (w := w) (g := g) (row := none) (pY72))); replace BK101 := am (blk_below (g := gb101) (o := .cells #[.slice none 0 0, .slice none 0 0] 31 (0, 0)) (by refine rB ?_; refine blk_far ?_ NB101_102.1 _; refine rB ?_; refine blk_far ?_ NB101_102.1 _; refine rB ?_; exact BK101.1) hb); replace BK102 := am (blk_below (g := gb102) (o := .cells #[.slice none 0 0, .slice none 0 0] 31 (0, 0)) (pY6) hb); replace HK := am (KeepBut.trans (pY72) (KeepBut.of_below hb g none) (.inl rfl)); replace HB := bS pY57 hb; replace HI0 := am (IsS103.below (show IsS103 w0 ((w3.setCell ⟨gb102, 0, none⟩ (.slice none 0 0)).setCell ⟨gb102, 1, none⟩ (.slice none 0 0)) g s0_0 s0_1 from pY67) hb); clear hb ho8))
 go_loopg [5] k (fun kq v5 w' => ∃ (x5_1 : Int) (x1001_1 : Int) (x103000_1 : List ByteArray) (u103000 : Value), v5 = .int .i64 x5_1 ∧ Aside0 (spec_l5Base.l0 kq y103 x5_1 s0_0 x1001_1 x103000_1 = some (r1, r2, r3)) ∧ Aside0 (kq ≤ k) ∧ Aside0 (Kd.R Kd.string 9 w' w.heap.size (fun k_ => some k_ ≠ (u103000 : Value).ownBlock) v104 y103) ∧ Aside0 (Kd.R Kd.string 9 w' w.heap.size (fun k_ => some k_ ≠ (v104 : Value).ownBlock) u103000 x103000_1) ∧ Aside0 (w'.heap[gb101]? = some (.cells #[(.slice none 0 0), (.slice none 0 0)] 31 (0, 0))) ∧ Aside0 (w'.heap[gb102]? = some (.cells #[u103000, (.slice none 0 0)] 31 (0, 0))) ∧ Aside0 (IsS103 w0 w' g s0_0 x1001_1) ∧ Aside0 (KeepBut w w' g none) ∧ Aside0 (Below w0.heap.size w0 w'))
 case atStart => exact ⟨(0), (s0_1), (([] : List ByteArray)), (.slice none 0 0), (pY136), H', ⟨Nat.le_refl _⟩, ⟨by refine rR ?_; exact Kd.R_mono HO105.1 (fun _ hk => (by simp [Value.ownBlock]))⟩, ⟨by first | exact Kd.R_nil _ _ _ _ _ | exact Kd.N_nil _ _ _ _ _ | exact Kd.V_nil _ _ _ _ _ | exact Kd.Q_nil _ _ _ _ _ | exact Kd.S_nil _ _ _ _ _⟩, ⟨rB BK101.1⟩, ⟨rB BK102.1⟩, ⟨pY67⟩, ⟨pY72⟩, ⟨pY57⟩⟩
 case round =>
  clear H'
  try clear hcz6_0 hcz6_1 hfz6_0 hfz6_1
  obtain ⟨x5_1, x1001_1, x103000_1, u103000, rfl, HA, HK1, HO_4, HO_103000, BK101, BK102, HI0, HK, HB⟩ := hrel
  cases gk with
  | zero => exact absurd HA.out (by simp [spec_l5Base.l0])
  | succ k1 =>
   have H := HA.out
   clear HA
   simp only [spec_l5Base.l0] at H
   refine ic H ?_ ?_ <;> clear H <;> intro c9b0 H
   obtain ⟨⟨t106, t107⟩, A10, H⟩ := bd H
   dsimp only at H
   by_cases c11 : t106 > 0
   rw [if_pos c11] at H
   have c11b0 : decide (0 < t106) = true := decide_eq_true c11
   clear c11
   obtain ⟨c12b0, H⟩ := cN H
   by_cases c13 : x103000_1.length < 8796093022208
   rw [if_pos c13] at H
   have LMc13 := am c13
   clear c13
   obtain ⟨y109, Ny109⟩ := yv (x103000_1 ++ [rdOf ByteArray.empty y103 x5_1]); first | replace H := bW Ny109 H | rw [← Ny109.1] at H
   have H' := am H
   clear H
   obtain ⟨Ao14, co14, eo14⟩ := Kd.R_slice HO_4.1
   subst eo14
   rotate_left
   rw [if_neg c13] at H
   exact absurd H (by simp)
   rw [if_neg c11] at H
   have c11b0 : decide (0 < t106) = false := decide_eq_false c11
   clear c11
   have H' := am H
   clear H
   obtain ⟨Ao20, co20, eo20⟩ := Kd.R_slice HO_4.1
   subst eo20
   rotate_left
   simp only [Option.some.injEq, Prod.mk.injEq] at H
   obtain ⟨rfl, rfl, rfl⟩ := H
   obtain ⟨Ao22, co22, eo22⟩ := Kd.R_slice HO_4.1
   subst eo22
   have hnb23 := NB102_101.1
   have hnc23 := NB101_102.1
   have hnb24 := NB102_0.1
   have hnc24 := NB0_102.1
   obtain ⟨hcz25_0, hcz25_1, hfz25_0, hfz25_1⟩ := cz2 BK102
   obtain ⟨Ao26, co26, eo26⟩ := Kd.R_slice HO_103000.1
   subst eo26
   have hnb27 := NB101_0.1
   have hnc27 := NB0_101.1
   obtain ⟨hcz28_0, hcz28_1, hfz28_0, hfz28_1⟩ := cz2 BK101
   rotate_left
   all_goals
    try go_wp2_with (first | ((with_reducible refine gC 100 ?_); refine cQ (some 15) Try.func100 (spec_l1Rd_pick.calls k1 g s0_0 x1001_1 5 t106 t107 w0 _ ((pY67)) ((pY57)) A10.out) ?_; rintro w1880 ⟨hi, hb, hk⟩; replace HO_4 := am (Kd.R_mono (Kd.R_keep (IsS103.apart (show IsS103 w0 _ g s0_0 x1001_1 from pY67) (pY128) (by decide)) hk (fun _ h => h.2)) (fun _ h => h.1)); replace HO_103000 := am (Kd.R_mono (Kd.R_keep (IsS103.apart (show IsS103 w0 _ g s0_0 x1001_1 from pY67) (rR HO_103000.1) (by decide)) hk (fun _ h => h.2)) (fun _ h => h.1)); replace BK101 := kb pY98 hk NB101_0; replace BK102 := kb pY99 hk NB102_0; replace HK := am (KeepBut.trans (pY72) hk (.inl rfl)); replace HB := am (hb); replace HI0 := am (hi); (try clear hb); (try clear hk); (try clear hi)))
   ·replace HO_4 := am (Kd.R_drew HO_4.1)
    replace HO_103000 := am (Kd.R_drew HO_103000.1)
    replace BK101 := am (blk_drew BK101.1)
    replace BK102 := am (blk_drew BK102.1)
    replace HI0 := am (IsS103.drew HI0.out)
    replace HK := am (keep_drew HK.out)
    replace HB := am (below_drew1 HB.1)
    obtain ⟨ad108, e108, hx108_0, p108, q108⟩ := aS (am (Kd.R_reads' HO_4.1).2.2) b0 x5_1
    cases e108
    refine sT (S := fun w' => w'.cell? ⟨gb102, 0, none⟩ = some (u103000) ∧ w'.cell? ⟨gb102, 1, none⟩ = some (.slice none 0 0) ∧ w'.cell? (ad108.add (x5_1).toNat) = some (.string (rdOf ByteArray.empty y103 x5_1))) [7, 9] 10 ⟨⟨(blk_cell BK102.1 0).trans rfl, (blk_cell BK102.1 1).trans rfl, hx108_0⟩⟩ (fun hHeld => ?_); refine with_tabW spec_l5Base.tab7 spec_l5Base.bits7 (fun HT_ HW_ => ?_)
    generalize w1880.drew = w16 at HO_4 HO_103000 BK101 BK102 HI0 HK HB hx108_0 hHeld ⊢
    refine pU 0 (some 17) ?_
    refine pU 2 (some 19) ?_
    refine pU 3 (some 20) ?_
    refine pU 4 (some 21) ?_
    refine tK3 1 (some 18) ?_
    refine tK3 5 (some 22) ?_
    refine oN 6 (some 23) fun K hK => ?_
    refine value_ (w1 := ?_) (v := ?_) (by rfl) rfl ?_ ?_
    rotate_left 2
    ·go_simp
     constructor
     ·rfl
     ·rfl
    refine hK.out _ _ ⟨(blk_cell (blk_alloc BK102.1 _) 0).trans rfl, (blk_cell (blk_alloc BK102.1 _) 1).trans rfl, (World.cell?_alloc_lt _ _ _ (World.block_lt_of_cell? _ _ (hHeld.2.2))).trans (hHeld.2.2)⟩ (fun hHeld => ?_)
    clear hK K
    refine nM ?_
    refine last_ (i := 7) (N := some 24) (bz 10 255) rfl rfl (one_of HT_.out (by kernel_rfl)) (by decide) (fun K hK => ?_)
    refine Kd.R_append_step Kd.string w.heap.size (by rfl) (.tmp 18) (.tmp 23) 23 9 (.string ⟨#[]⟩) 16 rfl Try.underlying23 info9 rfl (by decide) (by omega) u103000 x103000_1 (rdOf ByteArray.empty y103 x5_1) [.string (rdOf ByteArray.empty y103 x5_1)] (fun k_ => some k_ ≠ (.slice (some ad108) y103.length co14 : Value).ownBlock) (fun _ => False) rfl rfl ?aP (fun _ hk => hk.elim) ?aF ?aO (Below.refl _ _) ?aS ?aL ?_
    (case aP => exact rfl)
    (case aF => exact (fun k_ hk => Kd.fresh' (Kd.R_lt (pY128)) k_ hk))
    (case aO => exact (rR HO_103000.1))
    (case aS => exact (keep_size (w := w) (g := g) (row := none) (pY72)))
    (case aL => have := LMc13.out; omega)
    intro v110 w17 ho hb hg hat
    rw [← Ny109.out] at ho
    replace HO_4 := am (Kd.R_after (ok := (fun _ => True)) (by refine rR ?_; exact Kd.R_mono HO_4.1 (fun _ hk => ⟨trivial, hk⟩)) hg hat)
    replace BK101 := gR pY98 hg HO_103000 BK101
    replace BK102 := gR pY99 hg HO_103000 BK102
    replace HB := am (below_weaken (pY57) HL.out hb)
    replace HI0 := am (IsS103.grown (pY67) hg (IsS103.own_ne HI0.out HO_103000.1 (by decide)))
    replace HK := am (KeepBut.trans (pY72) (KeepBut.of_grown hg g) (Kd.R_base2 HO_103000.1))
    have HO111 := am (ho)
    clear HO_103000
    clear ho hb hg hat
    obtain ⟨Ao18, co18, eo18⟩ := Kd.R_slice HO111.1
    (first | subst eo18 | (injection eo18 with f1_ f2_ f3_; have f4_ := f1_.symm; have f5_ := f3_.symm; clear f1_ f2_ f3_; subst f4_; subst f5_))
    refine hK.out _ _ ?_
    clear hK K
    refine nM ?_
    refine pU 8 (some 25) ?_
    refine last_ (i := 9) (N := none) (bz 10 1023) rfl rfl (one_of HT_.out (by kernel_rfl)) (by decide) (fun K hK => ?_)
    have hs19 : w17.cell? ⟨gb102, 0, none⟩ = some (u103000) := (blk_cell BK102.1 0).trans rfl
    have hfs19 := blk_frozen BK102.1 0
    have hns19_0 := NB101_102.1
    have hms19_0 := NB102_101.1
    refine skip_ (w1 := ?_) (by rfl) rfl ?_ ?_
    rotate_left
    ·go_simp
     rfl
    refine hK.out _ _ ?_
    clear hK K
    refine done_ (done_of HT_.out (by kernel_rfl)) ?_
    try go_wp2
    go_roundg k1
    case measure => have := HK1.out; omega
    case rel => exact ⟨(wrap64 (x5_1 + 1)), (t107), (y109), (.slice Ao18 y109.length co18), (pY136), H', ⟨by have := HK1.out; omega⟩, ⟨by refine rR ?_; exact Kd.R_mono (fR (tR HO_4 BK102)) (fun _ hk => hk.1.2)⟩, ⟨by refine rR ?_; exact Kd.R_mono (fR (tR HO111 BK102)) (fun _ hk => hk.1)⟩, ⟨by refine rB ?_; refine blk_far ?_ NB101_102.1 _; refine rB ?_; exact BK101.1⟩, ⟨by refine rB ?_; refine blk_put (cs := #[u103000, .slice none 0 0]) ?_ 0 _ rfl; refine rB ?_; exact BK102.1⟩, ⟨pY67⟩, ⟨pY72⟩, ⟨pY57⟩⟩
   ·go_roundg k1
    case measure => have := HK1.out; omega
    case rel => exact ⟨(wrap64 (x5_1 + 1)), (t107), (x103000_1), (u103000), (pY136), H', ⟨by have := HK1.out; omega⟩, ⟨rR HO_4.1⟩, ⟨rR HO_103000.1⟩, ⟨rB BK101.1⟩, ⟨rB BK102.1⟩, ⟨pY67⟩, ⟨pY72⟩, ⟨pY57⟩⟩
   ·refine bodyPost_ret (results_cell_row rfl _ _ gb101 31 #[.slice Ao26 x103000_1.length co26, .slice none 0 0] (0, 0) _ rfl (by refine rB ?_; refine blk_put (cs := #[.slice Ao26 x103000_1.length co26, .slice none 0 0]) ?_ 1 _ rfl; refine rB ?_; refine blk_put (cs := #[.slice none 0 0, .slice none 0 0]) ?_ 0 _ rfl; refine rB ?_; exact BK101.1) Try.underlying31 rfl (by kernel_rfl)) rfl ?_
    exact ⟨_, eR, by refine rR ?_; exact Kd.R_mono (fR (fR (tR HO_103000 BK101))) (fun _ hk => trivial), pY67, pY57, pY72⟩
end Go.Proofs.Ytaofjgnhapnndaa.Q
