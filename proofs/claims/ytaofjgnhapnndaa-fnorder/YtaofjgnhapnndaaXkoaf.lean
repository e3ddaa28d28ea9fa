/- Texts that the row needs: words on memory and rows, the contracts of the functions it reaches, and the plain lemmas on what they compute. -/
import Derived.Shelf.Abstract
import Derived.Test.YtaofjgnhapnndaaXkoae
set_option maxHeartbeats 8000000
set_option maxRecDepth 100000
open Go.Proofs.YtaofjgnhapnndaaFko
namespace Go.Proofs.Ytaofjgnhapnndaa.Q
open Go.RowKit Go.Proofs.YtaofjgnhapnndaaW.PrintWords Go.Proofs.YtaofjgnhapnndaaW.PrintLast Go.Proofs.YtaofjgnhapnndaaW.PrintMore
set_option linter.unusedVariables false
set_option linter.unusedSimpArgs false
def Vk (g : Nat) (lb : Array Value) (p : ByteArray → Bool) (w : World) : Prop :=
  ∀ (W : World) (s : ByteArray), Below w.heap.size w W → Calls Try.prog g (#[.string s] ++ lb) W fun e w' => e = .returned (.bool (p s)) ∧ Below w.heap.size w w'
theorem Cf {α : Type} {d : Kd α} {w : World} {A : Option Addr} {n : Nat} {xs : List α} (h : d.C w A n xs) : n ≤ 9223372036854775807 := h.2.1
def idxP (p : ByteArray → Bool) : List ByteArray → Nat → Int
  | [], _ => -1
  | x :: xs, i => if p x = true then (i : Int) else idxP p xs (i + 1)
theorem XY (p : ByteArray → Bool) : ∀ (l : List ByteArray) (i : Nat), decide (0 ≤ idxP p l i) = l.any p := by
 intro l
 induction l with
 | nil => intro i; simp [idxP]
 | cons x xs ih =>
  intro i
  unfold idxP
  cases h : p x with
  | true => simp [h]
  | false => simp [h, ih]
set_option maxHeartbeats 2000000 in
theorem QL (g : Nat) (lb : Array Value) (eg : ∀ args w, (callFunc g args).run Try.prog w = .ok (.enter g args) w) (p : ByteArray → Bool) (A0 : Option Addr) (c0 : Nat) (l0 : List ByteArray) (w : World)
  (r5 : Kd.C Kd.string w A0 l0.length l0) (hp : Vk g lb p w) :
  Calls Try.prog 113 #[.slice A0 l0.length c0, .func (.func g) #[] lb] w fun e w' => e = .returned (.int .i64 (idxP p l0 0)) ∧ Below w.heap.size w w' := by
 have hbig := Cf r5
 have rD := aA.mk r5
 clear r5
 have HP := aA.mk hp
 clear hp
 go_enter Try.func113, Try.ntmps113
 go_wp2
 go_loopg [5, 8] l0.length (fun gg _ s8 wr => ∃ kk : Nat, kk ≤ l0.length ∧ l0.length - kk ≤ gg ∧ s8 = .int .i64 kk ∧ aA (Below w.heap.size w wr) ∧ aA (idxP p l0 0 = idxP p (l0.drop kk) kk))
 case atStart => exact ⟨0, Nat.zero_le _, by omega, rfl, ⟨Below.refl _ w⟩, ⟨by rw [List.drop_zero]⟩⟩
 obtain ⟨kk, hkk, hg, rfl, BW, A⟩ := hrel
 by_cases hlt : kk < l0.length
 ·have hltz : (kk : Int) < (l0.length : Int) := by omega
  have e1 := A.out
  rw [List.drop_eq_getElem_cons hlt, idxP] at e1
  have E1 := aA.mk e1
  clear e1
  obtain ⟨ad, rfl, hx⟩ := Kd.DD rD.1 (kk : Int) (by omega) (by omega)
  rw [Y9 _ _ _ hlt, Int.toNat_natCast] at hx
  have hcall := HP.out wr l0[kk] BW.out
  replace hx := (BW.out.cell (World.block_lt_of_cell? w _ hx)).trans hx
  generalize hy : l0[kk] = y at hx hcall E1
  clear hy
  cases hq : p y with
  | true =>
   rw [hq] at hcall
   have E2 : aA (idxP p l0 0 = kk) := ⟨by rw [E1.out, if_pos hq]⟩
   clear hq
   go_wp2_with (go_at_fn g; refine hcall.mono ?_; rintro e w' ⟨rfl, hb'⟩)
   go_ret
   exact ⟨by rw [E2.out]; rfl, hb'⟩
  | false =>
   rw [hq] at hcall
   have E2 : aA (idxP p l0 0 = idxP p (l0.drop (kk + 1)) (kk + 1)) := ⟨by rw [E1.out, if_neg (by simp [hq])]⟩
   clear hq
   go_wp2_with (go_at_fn g; refine hcall.mono ?_; rintro e w' ⟨rfl, hb'⟩)
   go_roundg (l0.length - (kk + 1))
   case measure => omega
   case rel => exact ⟨kk + 1, by omega, by omega, by go_num, ⟨hb'⟩, E2⟩
 have hltz : ¬ (kk : Int) < (l0.length : Int) := by omega
 have hk2 : kk = l0.length := by omega
 have E2 : aA (idxP p l0 0 = -1) := ⟨by rw [A.out, hk2, List.drop_length]; rfl⟩
 subst hk2
 go_wp2
 go_ret
 exact ⟨by rw [E2.out]; rfl, BW.out⟩
theorem DF (g : Nat) (lb : Array Value) (eg : ∀ args w, (callFunc g args).run Try.prog w = .ok (.enter g args) w) (p : ByteArray → Bool) (A0 : Option Addr) (c0 : Nat) (l0 : List ByteArray) (w : World)
  (r5 : Kd.C Kd.string w A0 l0.length l0) (hp : Vk g lb p w) :
  Calls Try.prog 75 #[.slice A0 l0.length c0, .func (.func g) #[] lb] w fun e w' => e = .returned (.bool (l0.any p)) ∧ Below w.heap.size w w' := by
 have HC := aA.mk (QL g lb eg p A0 c0 l0 w r5 hp)
 have HN := aA.mk (XY p l0 0)
 clear r5 hp eg
 generalize idxP p l0 0 = q at HC HN
 go_enter Try.func75, Try.ntmps75
 go_wp2_with (go_at_call 113; refine HC.out.mono ?_; rintro e w' ⟨rfl, hb'⟩)
 go_ret
 exact ⟨by rw [← HN.out]; rfl, hb'⟩
mutual
def dX.j0 : Nat → ByteArray → Bool → Option (Bool)
 | 0, _, _ => none
 | k + 1, a, b => if b = true then (some false) else (dX.l0 k a 0)
def dX.l0 : Nat → ByteArray → Int → Option (Bool)
 | 0, _, _ => none
 | k + 1, b, a => if a < (b.size : Int) then (if 0 ≤ a then (if (bt b a) ≥ 97 then (if (bt b a) ≤ 122 then (dX.l0 k b (wrap64 (a + 1))) else (if (bt b a) ≥ 48 then (if (bt b a) ≤ 57 then (dX.l0 k b (wrap64 (a + 1))) else (if ((bt b a) = 45) then (dX.l0 k b (wrap64 (a + 1))) else (some false))) else (if ((bt b a) = 45) then (dX.l0 k b (wrap64 (a + 1))) else (some false)))) else (if (bt b a) ≥ 48 then (if (bt b a) ≤ 57 then (dX.l0 k b (wrap64 (a + 1))) else (if ((bt b a) = 45) then (dX.l0 k b (wrap64 (a + 1))) else (some false))) else (if ((bt b a) = 45) then (dX.l0 k b (wrap64 (a + 1))) else (some false)))) else (none)) else (some true)
end
def dX.f (k : Nat) (a0 : ByteArray) : Option (Bool) := if (a0.size : Int) < 1 then (dX.j0 k a0 true) else (dX.j0 k a0 (decide ((a0.size : Int) > 8)))
theorem dX.Q0 : ∀ k, (∀ y0 y1, LeO (dX.j0 k y0 y1) (dX.j0 (k + 1) y0 y1)) ∧ (∀ y0 y1, LeO (dX.l0 k y0 y1) (dX.l0 (k + 1) y0 y1))
 | 0 => ⟨fun _ _ r h => by simp [dX.j0] at h, fun _ _ r h => by simp [dX.l0] at h⟩
 | k + 1 => by
  obtain ⟨ih0, ih1⟩ := dX.Q0 k
  refine ⟨?_, ?_⟩
  ·intro y0 y1
   unfold dX.j0
   repeat' first
   | (with_reducible exact ih0 _ _)
   | (with_reducible exact ih1 _ _)
   | (with_reducible exact LeO.refl _)
   | (with_reducible exact LeO.none _)
   | (with_reducible refine LeO.ite ?_ ?_)
   | (with_reducible refine LeO.bind ?_ (fun _ => ?_))
   | exact ih0 _ _
   | exact ih1 _ _
   | exact LeO.none _
   | refine LeO.ite ?_ ?_
   | refine LeO.bind ?_ (fun _ => ?_)
  ·intro y0 y1
   unfold dX.l0
   repeat' first
   | (with_reducible exact ih0 _ _)
   | (with_reducible exact ih1 _ _)
   | (with_reducible exact LeO.refl _)
   | (with_reducible exact LeO.none _)
   | (with_reducible refine LeO.ite ?_ ?_)
   | (with_reducible refine LeO.bind ?_ (fun _ => ?_))
   | exact ih0 _ _
   | exact ih1 _ _
   | exact LeO.none _
   | refine LeO.ite ?_ ?_
   | refine LeO.bind ?_ (fun _ => ?_)
theorem dX.mono : ∀ a0 k, LeO (dX.f k a0) (dX.f (k + 1) a0) := by
 intro a0 k
 obtain ⟨ih0, ih1⟩ := dX.Q0 k
 unfold dX.f
 repeat' first
   | (with_reducible exact ih0 _ _)
   | (with_reducible exact ih1 _ _)
   | (with_reducible exact LeO.refl _)
   | (with_reducible exact LeO.none _)
   | (with_reducible refine LeO.ite ?_ ?_)
   | (with_reducible refine LeO.bind ?_ (fun _ => ?_))
   | exact ih0 _ _
   | exact ih1 _ _
   | exact LeO.none _
   | refine LeO.ite ?_ ?_
   | refine LeO.bind ?_ (fun _ => ?_)
theorem dX.calls (k : Nat) (a0 : ByteArray) (r : Bool) (w : World) (h : dX.f k a0 = some r) :
  Calls Try.prog 77 #[.string a0] w fun e w' => e = .returned (.bool r) ∧ kP w w' := by
 unfold dX.f at h
 have H := h
 clear h
 have D0 := am H
 clear H
 go_enter Try.func77, Try.ntmps77
 go_upto_region 1 with ((fail))
 go_cut [12] (fun v12 wc => ∃ (kq : Nat) (oU : Bool), v12 = .bool oU ∧ aA (dX.j0 kq a0 oU = some r) ∧ aA (kq ≤ k) ∧ kP w wc)
 case first =>
  have H := D0.1
  clear D0
  by_cases c3 : (a0.size : Int) < 1
  ·rw [if_pos c3] at H
   have BG : decide ((a0.size : Int) < 1) = true := decide_eq_true c3
   have UA : decide (a0.size < 1) = true := decide_eq_true (by omega)
   clear c3
   (first | rw [BG] | (simp only [mV, pE]; rw [BG]) | skip)
   have H' := am H
   repeat clear H
   go_wp2
   go_meet
   exact ⟨_, (true), dH, H', ⟨by first | omega | exact Nat.le_refl _⟩, gN⟩
  rw [if_neg c3] at H
  have BG : decide ((a0.size : Int) < 1) = false := decide_eq_false c3
  have UA : decide (a0.size < 1) = false := decide_eq_false (by omega)
  clear c3
  (first | rw [BG] | (simp only [mV, pE]; rw [BG]) | skip)
  have H' := am H
  repeat clear H
  go_wp2
  go_meet
  exact ⟨_, (decide ((a0.size : Int) > 8)), dH, H', ⟨by first | omega | exact Nat.le_refl _⟩, gN⟩
 clear D0
 obtain ⟨kq, oU, rfl, HA, HJ1, ⟨mc1, rfl⟩⟩ := hcut
 cases kq with
 | zero => exact absurd HA.out (by simp [dX.j0])
 | succ kj1 =>
  have H := HA.out
  clear HA
  simp only [dX.j0] at H
  refine tC H ?_ ?_ <;> (repeat clear H) <;> intro c4 H <;> subst c4
  ·obtain rfl := Option.some.inj H
   repeat clear H
   go_wp2
   go_ret
   exact ⟨by first | rfl | (simp; done) | (simp [*]; done), gN⟩
  ·have H' := am H
   repeat clear H
   go_wp2
   go_loopg [3] kj1 (fun kq v3 w' => ∃ (hL : Int), v3 = .int .i64 hL ∧ aA (dX.l0 kq a0 hL = some r) ∧ aA (kq ≤ kj1) ∧ kP w w')
   case atStart => exact ⟨(0), dH, H', ⟨Nat.le_refl _⟩, gN⟩
   case round =>
    clear H'
    try clear c4
    obtain ⟨hL, rfl, HA, HK2, ⟨m2, rfl⟩⟩ := hrel
    cases gk with
    | zero => exact absurd HA.out (by simp [dX.l0])
    | succ k2 =>
     have H := HA.out
     clear HA
     simp only [dX.l0] at H
     refine ic H ?_ ?_ <;> clear H <;> intro EO H
     ·obtain ⟨PK, H⟩ := cN H
      by_cases c8 : (bt a0 hL) ≥ 97
      ·rw [if_pos c8] at H
       have HY : decide (97 ≤ (bt a0 hL)) = true := decide_eq_true c8
       clear c8
       refine ic H ?_ ?_ <;> clear H <;> intro LY H
       ·have H' := am H
        repeat clear H
        obtain ⟨Pr, p7, q7⟩ := aB a0 hL
        go_wp2
        go_roundg k2
        case measure => have := HJ1.out; have := HK2.out; omega
        case rel => exact ⟨(wrap64 (hL + 1)), dH, H', ⟨by have := HJ1.out; have := HK2.out; omega⟩, gN⟩
       ·by_cases X7 : (bt a0 hL) ≥ 48
        ·rw [if_pos X7] at H
         have IC : decide (48 ≤ (bt a0 hL)) = true := decide_eq_true X7
         clear X7
         refine ic H ?_ ?_ <;> clear H <;> intro ID H
         ·have H' := am H
          repeat clear H
          obtain ⟨Pr, p7, q7⟩ := aB a0 hL
          go_wp2
          go_roundg k2
          case measure => have := HJ1.out; have := HK2.out; omega
          case rel => exact ⟨(wrap64 (hL + 1)), dH, H', ⟨by have := HJ1.out; have := HK2.out; omega⟩, gN⟩
         ·refine iq H ?_ ?_ <;> clear H <;> intro Rk MU Kw H
          ·have H' := am H
           repeat clear H
           obtain ⟨Pr, p7, q7⟩ := aB a0 hL
           go_wp2
           go_roundg k2
           case measure => have := HJ1.out; have := HK2.out; omega
           case rel => exact ⟨(wrap64 (hL + 1)), dH, H', ⟨by have := HJ1.out; have := HK2.out; omega⟩, gN⟩
          ·obtain rfl := Option.some.inj H
           repeat clear H
           obtain ⟨Pr, p7, q7⟩ := aB a0 hL
           go_wp2
           go_ret
           exact ⟨by first | rfl | (simp; done) | (simp [*]; done), gN⟩
        ·rw [if_neg X7] at H
         have IC : decide (48 ≤ (bt a0 hL)) = false := decide_eq_false X7
         clear X7
         refine iq H ?_ ?_ <;> clear H <;> intro ZW MV qt H
         ·have H' := am H
          repeat clear H
          obtain ⟨Pr, p7, q7⟩ := aB a0 hL
          go_wp2
          go_roundg k2
          case measure => have := HJ1.out; have := HK2.out; omega
          case rel => exact ⟨(wrap64 (hL + 1)), dH, H', ⟨by have := HJ1.out; have := HK2.out; omega⟩, gN⟩
         ·obtain rfl := Option.some.inj H
          repeat clear H
          obtain ⟨Pr, p7, q7⟩ := aB a0 hL
          go_wp2
          go_ret
          exact ⟨by first | rfl | (simp; done) | (simp [*]; done), gN⟩
      ·rw [if_neg c8] at H
       have HY : decide (97 ≤ (bt a0 hL)) = false := decide_eq_false c8
       clear c8
       by_cases Rl : (bt a0 hL) ≥ 48
       ·rw [if_pos Rl] at H
        have S0 : decide (48 ≤ (bt a0 hL)) = true := decide_eq_true Rl
        clear Rl
        refine ic H ?_ ?_ <;> clear H <;> intro X8 H
        ·have H' := am H
         repeat clear H
         obtain ⟨Pr, p7, q7⟩ := aB a0 hL
         go_wp2
         go_roundg k2
         case measure => have := HJ1.out; have := HK2.out; omega
         case rel => exact ⟨(wrap64 (hL + 1)), dH, H', ⟨by have := HJ1.out; have := HK2.out; omega⟩, gN⟩
        ·refine iq H ?_ ?_ <;> clear H <;> intro U9 IE Kz H
         ·have H' := am H
          repeat clear H
          obtain ⟨Pr, p7, q7⟩ := aB a0 hL
          go_wp2
          go_roundg k2
          case measure => have := HJ1.out; have := HK2.out; omega
          case rel => exact ⟨(wrap64 (hL + 1)), dH, H', ⟨by have := HJ1.out; have := HK2.out; omega⟩, gN⟩
         ·obtain rfl := Option.some.inj H
          repeat clear H
          obtain ⟨Pr, p7, q7⟩ := aB a0 hL
          go_wp2
          go_ret
          exact ⟨by first | rfl | (simp; done) | (simp [*]; done), gN⟩
       ·rw [if_neg Rl] at H
        have S0 : decide (48 ≤ (bt a0 hL)) = false := decide_eq_false Rl
        clear Rl
        refine iq H ?_ ?_ <;> clear H <;> intro c17 La aEP H
        ·have H' := am H
         repeat clear H
         obtain ⟨Pr, p7, q7⟩ := aB a0 hL
         go_wp2
         go_roundg k2
         case measure => have := HJ1.out; have := HK2.out; omega
         case rel => exact ⟨(wrap64 (hL + 1)), dH, H', ⟨by have := HJ1.out; have := HK2.out; omega⟩, gN⟩
        ·obtain rfl := Option.some.inj H
         repeat clear H
         obtain ⟨Pr, p7, q7⟩ := aB a0 hL
         go_wp2
         go_ret
         exact ⟨by first | rfl | (simp; done) | (simp [*]; done), gN⟩
     ·obtain rfl := Option.some.inj H
      repeat clear H
      go_wp2
      go_ret
      exact ⟨by first | rfl | (simp; done) | (simp [*]; done), gN⟩
end Go.Proofs.Ytaofjgnhapnndaa.Q
namespace Go.Proofs.Ytaofjgnhapnndaa.Q
open Go.RowKit Go.Proofs.YtaofjgnhapnndaaW.PrintWords Go.Proofs.YtaofjgnhapnndaaW.PrintLast Go.Proofs.YtaofjgnhapnndaaW.PrintMore
set_option linter.unusedVariables false
set_option linter.unusedSimpArgs false
def okc (c : Int) : Bool := (decide (97 ≤ c) && decide (c ≤ 122)) || (decide (48 ≤ c) && decide (c ≤ 57)) || decide (c = 45)
def yT (s : ByteArray) : Bool := decide (1 ≤ s.size) && decide (s.size ≤ 8) && (List.range' 0 s.size).all fun j => okc (bt s (j : Int))
theorem Nn {c : Int} (h : okc c = true) : (97 ≤ c ∧ c ≤ 122) ∨ (48 ≤ c ∧ c ≤ 57) ∨ c = 45 := by
 simpa [okc, or_assoc] using h
theorem Gv {c : Int} (h : okc c = false) : ¬ (97 ≤ c ∧ c ≤ 122) ∧ ¬ (48 ≤ c ∧ c ≤ 57) ∧ ¬ c = 45 := by
 simp only [okc, Bool.or_eq_false_iff, Bool.and_eq_false_iff, decide_eq_false_iff_not] at h
 omega
theorem VT {α : Type} (c : Int) (x y : α) :
  (if c ≥ 97 then (if c ≤ 122 then x else (if c ≥ 48 then (if c ≤ 57 then x else (if c = 45 then x else y)) else (if c = 45 then x else y))) else (if c ≥ 48 then (if c ≤ 57 then x else (if c = 45 then x else y)) else (if c = 45 then x else y))) = if okc c = true then x else y := by
 cases h : okc c with
 | true =>
  rw [if_pos rfl]
  have h := Nn h
  split
  ·split
   ·rfl
   ·split
    ·split
     ·rfl
     ·rw [if_pos (by omega)]
    ·rw [if_pos (by omega)]
  ·split
   ·split
    ·rfl
    ·rw [if_pos (by omega)]
   ·rw [if_pos (by omega)]
 | false =>
  rw [show (if false = true then x else y) = y from rfl]
  obtain ⟨h1, h2, h3⟩ := Gv h
  rw [if_neg h3]
  by_cases a : c ≥ 97
  ·rw [if_pos a, if_neg (fun b => h1 ⟨a, b⟩)]
   by_cases a2 : c ≥ 48
   ·rw [if_pos a2, if_neg (fun b => h2 ⟨a2, b⟩)]
   ·rw [if_neg a2]
  ·rw [if_neg a]
   by_cases a2 : c ≥ 48
   ·rw [if_pos a2, if_neg (fun b => h2 ⟨a2, b⟩)]
   ·rw [if_neg a2]
theorem Td (s : ByteArray) (hs : s.size ≤ 9223372036854775807) : ∀ (d k i : Nat), s.size - i = d → i ≤ s.size → d < k →
  dX.l0 k s (i : Int) = some ((List.range' i d).all fun j => okc (bt s (j : Int))) := by
 intro d
 induction d with
 | zero =>
  intro k i hd hi hk
  obtain ⟨k, rfl⟩ : ∃ m, k = m + 1 := ⟨k - 1, by omega⟩
  simp only [dX.l0]
  rw [if_neg (by omega)]
  rfl
 | succ d ih =>
  intro k i hd hi hk
  obtain ⟨k, rfl⟩ : ∃ m, k = m + 1 := ⟨k - 1, by omega⟩
  simp only [dX.l0, List.range'_succ, List.all_cons]
  rw [if_pos (by omega), if_pos (by omega), VT]
  cases h : okc (bt s (i : Int)) with
  | true =>
   rw [if_pos rfl, TB (show i < s.size by omega) hs, ih k (i + 1) (by omega) (by omega) (by omega)]
   rfl
  | false =>
   rw [if_neg (by simp)]
   rfl
theorem Fg (s : ByteArray) : dX.f 10 s = some (yT s) := by
 unfold dX.f yT
 by_cases h1 : (s.size : Int) < 1
 ·rw [if_pos h1]
  simp only [dX.j0]
  rw [if_pos trivial, show decide (1 ≤ s.size) = false from decide_eq_false (by omega)]
  rfl
 rw [if_neg h1]
 simp only [dX.j0]
 by_cases h2 : (s.size : Int) > 8
 ·rw [if_pos (decide_eq_true h2), show decide (s.size ≤ 8) = false from decide_eq_false (by omega)]
  simp
 rw [if_neg (by simpa using h2), show (0 : Int) = ((0 : Nat) : Int) from rfl, Td s (by omega) s.size 9 0 (by omega) (by omega) (by omega)]
 rw [show decide (s.size ≤ 8) = true from decide_eq_true (by omega), show decide (1 ≤ s.size) = true from decide_eq_true (by omega)]
 rfl
def nH.f (k : Nat) (a0 : ByteArray) : Option (Bool) := (dX.f k a0).bind fun a => (some (!a))
theorem nH.calls (k : Nat) (a0 : ByteArray) (r : Bool) (w : World) (h : nH.f k a0 = some r) :
  Calls Try.prog 76 #[.string a0] w fun e w' => e = .returned (.bool r) ∧ kP w w' := by
 unfold nH.f at h
 have H := h
 clear h
 obtain ⟨sR, A2, H⟩ := bd H
 obtain rfl := Option.some.inj H
 repeat clear H
 go_enter Try.func76, Try.ntmps76
 go_wp2_with (first | ((with_reducible refine gC 77 ?_); refine cQ (some 4) Try.func77 (dX.calls k a0 sR _ A2.out) ?_; rintro w' ⟨nd, rfl⟩))
 go_ret
 exact ⟨by first | rfl | (simp; done) | (simp [*]; done), gN⟩
theorem Ba (s : ByteArray) : nH.f 10 s = some (!yT s) := by
 unfold nH.f
 rw [Fg]
 rfl
def iU.f (l0 : List ByteArray) : Option (Bool) := some (l0.any fun s => !yT s)
theorem iU.calls (A0 : Option Addr) (c0 : Nat) (l0 : List ByteArray) (r : Bool) (w : World) (r5 : Kd.C Kd.string w A0 l0.length l0) (xK : l0.length ≤ c0) (h : iU.f l0 = some r) :
  Calls Try.prog 75 #[.slice A0 l0.length c0, .func (.func 76) #[] #[]] w fun e w' => e = .returned (.bool r) ∧ Below w.heap.size w w' := by
 obtain rfl := Option.some.inj h
 refine DF 76 #[] (enters_of Try.func76 (by kernel_rfl) rfl) (fun s => !yT s) A0 c0 l0 w r5 (fun W s hb => ?_)
 exact (nH.calls 10 s (!yT s) W (Ba s)).mono fun e w' ⟨he, hd⟩ => ⟨he, xB hb hb.size hd.below⟩
theorem XH (s : ByteArray) (gb : Nat) (A1 : Option Addr) (c1 : Nat) (l1 : List ByteArray) (W : World) (DK : l1.length ≤ c1) (hcell : W.cell? ⟨gb, 0, none⟩ = some (.slice A1 l1.length c1)) (BF : Kd.C Kd.string W A1 l1.length l1) :
  Calls Try.prog 114 #[.string s, .pointer (some ⟨gb, 0, none⟩)] W fun e w' => e = .returned (.bool (hasS l1 s)) ∧ kP W w' := by
 have tO := am BF
 have zK := am DK
 have HK := am (MZ l1 s (Cf BF))
 clear BF DK
 generalize hasS l1 s = b at HK
 go_enter Try.func114, Try.ntmps114
 go_wp2_with ((go_at_call 81; refine (bA.calls (l1.length + 1) A1 c1 l1 s b _ ?s1 zK.1 HK.out).mono ?_; (case s1 => repeat (first | exact tO.1 | (with_reducible refine Kd.gU ?_ _) | (with_reducible refine Kd.gV ?_ _) | (with_reducible refine Kd.iW ?_))); rintro e w' ⟨rfl, ⟨nd, rfl⟩⟩))
 go_ret
 exact ⟨rfl, gN⟩
def oJ.f (l0 : List ByteArray) (l1 : List ByteArray) : Option (Bool) := some (l0.any (hasS l1))
theorem oJ.calls (A0 : Option Addr) (c0 : Nat) (l0 : List ByteArray) (A1 : Option Addr) (c1 : Nat) (l1 : List ByteArray) (r : Bool) (w : World) (r5 : Kd.C Kd.string w A0 l0.length l0) (xK : l0.length ≤ c0) (BF : Kd.C Kd.string w A1 l1.length l1) (DK : l1.length ≤ c1) (h : oJ.f l0 l1 = some r) :
  Calls Try.prog 78 #[.slice A0 l0.length c0, .slice A1 l1.length c1] w fun e w' => e = .returned (.bool r) ∧ Below w.heap.size w w' := by
 obtain rfl := Option.some.inj h
 clear h
 have HW : aA (Below w.heap.size w (w.alloc (.cells #[.slice A1 l1.length c1] 23 (0, 0)))) := ⟨(Below.refl _ _).alloc (Nat.le_refl _) _⟩
 have HC : aA (Calls Try.prog 75 #[.slice A0 l0.length c0, .func (.func 114) #[] #[.pointer (some ⟨w.heap.size, 0, none⟩)]] (w.alloc (.cells #[.slice A1 l1.length c1] 23 (0, 0))) fun e w' => e = .returned (.bool (l0.any (hasS l1))) ∧ Below (w.alloc (.cells #[.slice A1 l1.length c1] 23 (0, 0))).heap.size (w.alloc (.cells #[.slice A1 l1.length c1] 23 (0, 0))) w') := by
  refine ⟨DF 114 _ (enters_of Try.func114 (by kernel_rfl) rfl) (hasS l1) A0 c0 l0 _ (Kd.bK r5 HW.out) ?_⟩
  intro W s hb
  have hcell : W.cell? ⟨w.heap.size, 0, none⟩ = some (.slice A1 l1.length c1) := by
   rw [hb.cell (p := ⟨w.heap.size, 0, none⟩) (by simp)]
   simp
  exact (XH s w.heap.size A1 c1 l1 W DK hcell (Kd.bK (Kd.bK BF HW.out) hb)).mono fun e w' ⟨he, hd⟩ => ⟨he, xB hb hb.size hd.below⟩
 generalize l0.any (hasS l1) = b at HC
 clear r5 xK BF DK
 go_enter Try.func78, Try.ntmps78
 go_wp2_with ((go_at_call 75; refine HC.out.mono ?_; rintro e w' ⟨rfl, hb'⟩))
 go_ret
 exact ⟨rfl, xB HW.out HW.out.size hb'⟩
mutual
def aN.j0 : Nat → Bool → List ByteArray → List (S56) → Option (Bool)
 | 0, _, _, _ => none
 | k + 1, b, c, a => if b = true then (some false) else (aN.l0 k a (a.length : Int) 0 c a)
def aN.l0 : Nat → List (S56) → Int → Int → List ByteArray → List (S56) → Option (Bool)
 | 0, _, _, _, _, _ => none
 | k + 1, b, e, a, c, d => if a < e then (if 0 ≤ a then (if a < (b.length : Int) then ((dX.f k ((aC b a).f0)).bind fun g => (if g = true then (if a > 0 then (if 0 ≤ (wrap64 (a - 1)) then (if (wrap64 (a - 1)) < (d.length : Int) then (if ((Op.bytesLess (((aC d (wrap64 (a - 1))).f0).toList) (((aC b a).f0).toList)) = true) then ((jA.f k ((aC b a).f2) c).bind fun h => (if h = true then ((jA.f k ((aC b a).f1) ((aC b a).f2)).bind fun i => (aN.j2 k a b e a (!i) c d ((aC b a).f0) ((aC b a).f1) ((aC b a).f2))) else (aN.j2 k a b e a true c d ((aC b a).f0) ((aC b a).f1) ((aC b a).f2)))) else (aN.j2 k a b e a true c d ((aC b a).f0) ((aC b a).f1) ((aC b a).f2))) else (none)) else (none)) else ((jA.f k ((aC b a).f2) c).bind fun j => (if j = true then ((jA.f k ((aC b a).f1) ((aC b a).f2)).bind fun l => (aN.j2 k a b e a (!l) c d ((aC b a).f0) ((aC b a).f1) ((aC b a).f2))) else (aN.j2 k a b e a true c d ((aC b a).f0) ((aC b a).f1) ((aC b a).f2))))) else (aN.j2 k a b e a true c d ((aC b a).f0) ((aC b a).f1) ((aC b a).f2)))) else (none)) else (none)) else (some true)
def aN.j2 : Nat → Int → List (S56) → Int → Int → Bool → List ByteArray → List (S56) → ByteArray → List ByteArray → List ByteArray → Option (Bool)
 | 0, _, _, _, _, _, _, _, _, _, _ => none
 | k + 1, a, d, e, f, g, h, b, i, j, l => if g = true then (some false) else (if 0 ≤ a then (if a ≤ (b.length : Int) then ((some (b.take (a : Int).toNat : List (S56))).bind fun c => (aN.l1 k d e f c (c.length : Int) 0 h b i j l)) else (none)) else (none))
def aN.l1 : Nat → List (S56) → Int → Int → List (S56) → Int → Int → List ByteArray → List (S56) → ByteArray → List ByteArray → List ByteArray → Option (Bool)
 | 0, _, _, _, _, _, _, _, _, _, _, _ => none
 | k + 1, c, d, e, b, g, a, h, i, l, j, m => if a < g then (if 0 ≤ a then (if a < (b.length : Int) then ((oJ.f j ((aC b a).f1)).bind fun n => (if n = true then (some false) else (aN.l1 k c d e b g (wrap64 (a + 1)) h i l j m))) else (none)) else (none)) else (aN.l0 k c d (wrap64 (e + 1)) h i)
end
def aN.f (k : Nat) (aY : List ByteArray) (aI : List (S56)) : Option (Bool) := if (aY.length : Int) > 8 then (aN.j0 k true aY aI) else (if (aI.length : Int) > 5 then (aN.j0 k true aY aI) else ((jA.f k aY aY).bind fun a => (if a = true then ((iU.f aY).bind fun b => (aN.j0 k b aY aI)) else (aN.j0 k true aY aI))))
def aN.T6 : Bool × List (List Nat × List Nat) := (true, [([], []), ([0], [0]), ([1], [1]), ([2], [2]), ([3, 2], [3]), ([4], [4]), ([5, 4], [4, 5]), ([6, 4, 4], [4, 6]), ([7], [7]), ([8, 7], [7, 8]), ([7], [7]), ([10, 7], [7, 10]), ([9, 11, 7], [7, 9, 11]), ([12, 7], [7, 12]), ([13, 7], [7, 13]), ([7], [7]), ([15, 7], [7, 15]), ([14, 16, 7], [7, 14, 16]), ([7, 17, 4], [4, 7, 17]), ([4, 18], [4, 18]), ([19, 7], [19]), ([20], [20]), ([21, 20], [20, 21]), ([20], [20]), ([23, 20], [20, 23]), ([22, 24, 20, 20], [20, 22, 24]), ([25, 20], [20, 25]), ([20, 26], [20, 26]), ([27, 25], [27]), ([28], [28]), ([29, 28], [28, 29]), ([28], [28]), ([31, 28], [28, 31]), ([30, 32, 28, 28], [28, 30, 32]), ([33, 28], [28, 33]), ([28, 34], [28, 34])])
def aN.B6 : List Nat := [0, 1, 3, 7, 15, 31, 63, 127, 255, 511, 255, 1279, 4095, 8191, 16383, 255, 33023, 131071, 262143, 524287, 1048575, 2097151, 4194303, 2097151, 10485759, 33554431, 67108863, 134217727, 268435455, 536870911, 1073741823, 536870911, 2684354559, 8589934591, 17179869183, 34359738367]
theorem aN.tab6 : rtab .any (opsOf Try.f24 6) = aN.T6 := by kernel_rfl
theorem aN.wX : kM aN.T6.2 aN.B6 = true := by kernel_rfl
theorem aN.calls (k : Nat) (eL : Option Addr) (eO : Nat) (aY : List ByteArray) (fJ : Option Addr) (eJ : Nat) (aI : List (S56)) (r : Bool) (w : World) (iQ : Kd.C Kd.string w eL aY.length aY) (iO : aY.length ≤ eO) (iH : Kd.C k56 w fJ aI.length aI) (iP : aI.length ≤ eJ) (h : aN.f k aY aI = some r) :
  Calls Try.prog 24 #[.agg #[.slice eL aY.length eO, .slice fJ aI.length eJ]] w fun e w' => e = .returned (.bool r) ∧ Below w.heap.size w w' := by
 have hu31 := Try.underlying31
 have hu56 := Try.underlying56
 obtain ⟨eQ, eP⟩ := mZ2 iQ iO
 obtain ⟨dO, fP⟩ := mZ2 iH iP
 clear iQ iO iH iP
 have HB := am (Below.refl w.heap.size w)
 unfold aN.f at h
 have H := h
 clear h
 have D0 := am H
 clear H
 go_enter Try.func24, Try.ntmps24
 go_upto_region 1 with (first | ((with_reducible refine gD 1 ?_); (try (refine nE (by rfl) ?_; dsimp only)); refine bX 1 #[.slice eL aY.length eO, .slice fJ aI.length eJ] 31 ?_; intro aJ hg w3 hbox hb; have a3 := am hbox; have gH := am (u0 : w.heap.size ≤ aJ); have iE := gH; replace HB := bS eI hb; clear hb hbox hg))
 (try simp only [Act.put, List.setIfInBounds_toArray, List.set_cons_zero, List.set_cons_succ])
 go_cut [29] (fun v29 wc => ∃ (kq : Nat) (Ph : Bool), v29 = .bool Ph ∧ aA (aN.j0 kq Ph aY aI = some r) ∧ aA (kq ≤ k) ∧ aA (wc.heap[aJ]? = some (.cells #[(.slice eL aY.length eO), (.slice fJ aI.length eJ)] 31 (0, 0))) ∧ aA (Below w.heap.size w wc))
 case first =>
  have H := D0.1
  clear D0
  by_cases c4 : (aY.length : Int) > 8
  ·rw [if_pos c4] at H
   have vT : decide (8 < (aY.length : Int)) = true := decide_eq_true c4
   have Gh : decide (8 < aY.length) = true := decide_eq_true (by omega)
   clear c4
   (first | rw [vT] | (simp only [mV, pE]; rw [vT]) | skip)
   have H' := am H
   repeat clear H
   have Z5 := cz2 a3
   go_wp2
   go_meet
   exact ⟨_, (true), dH, H', ⟨by first | omega | exact Nat.le_refl _⟩, ⟨rB a3.1⟩, ⟨dS⟩⟩
  rw [if_neg c4] at H
  have vT : decide (8 < (aY.length : Int)) = false := decide_eq_false c4
  have Gh : decide (8 < aY.length) = false := decide_eq_false (by omega)
  clear c4
  (first | rw [vT] | (simp only [mV, pE]; rw [vT]) | skip)
  by_cases c6 : (aI.length : Int) > 5
  ·rw [if_pos c6] at H
   have PK : decide (5 < (aI.length : Int)) = true := decide_eq_true c6
   have ZZ : decide (5 < aI.length) = true := decide_eq_true (by omega)
   clear c6
   have H' := am H
   repeat clear H
   have Z7 := cz2 a3
   go_wp2
   go_meet
   exact ⟨_, (true), dH, H', ⟨by first | omega | exact Nat.le_refl _⟩, ⟨rB a3.1⟩, ⟨dS⟩⟩
  rw [if_neg c6] at H
  have PK : decide (5 < (aI.length : Int)) = false := decide_eq_false c6
  have ZZ : decide (5 < aI.length) = false := decide_eq_false (by omega)
  clear c6
  obtain ⟨kQ, A8, H⟩ := bd H
  refine tC H ?_ ?_ <;> clear H <;> intro c9 H <;> subst c9
  ·obtain ⟨eK, jr, H⟩ := bd H
   have H' := am H
   repeat clear H
   have Po := cz2 a3
   go_wp2_with (first | (go_at_call 74; refine cM (jA.calls k _ _ aY _ _ aY true _ (pB eQ) eP.1 (pB eQ) eP.1 A8.out) ?_; rintro w' ⟨nd, rfl⟩) | (go_at_call 75; refine cM (iU.calls _ _ aY  eK _ (pC (Kd.bK eQ.1 dS)) eP.1 jr.out) ?_; rintro w12 hb; replace a3 := bB aQ hb; replace HB := bS dS hb; clear hb))
   go_meet
   exact ⟨_, (eK), dH, H', ⟨by first | omega | exact Nat.le_refl _⟩, ⟨rB a3.1⟩, ⟨dS⟩⟩
  have H' := am H
  repeat clear H
  have Ki := cz2 a3
  go_wp2_with (first | (go_at_call 74; refine cM (jA.calls k _ _ aY _ _ aY false _ (pB eQ) eP.1 (pB eQ) eP.1 A8.out) ?_; rintro w' ⟨nd, rfl⟩))
  go_meet
  exact ⟨_, (true), dH, H', ⟨by first | omega | exact Nat.le_refl _⟩, ⟨rB a3.1⟩, ⟨dS⟩⟩
 clear D0
 obtain ⟨kq, Ph, rfl, HA, HJ1, a3, HB⟩ := hcut
 cases kq with
 | zero => exact absurd HA.out (by simp [aN.j0])
 | succ kj1 =>
  have H := HA.out
  clear HA
  simp only [aN.j0] at H
  refine tC H ?_ ?_ <;> (repeat clear H) <;> intro Rl H <;> subst Rl
  ·obtain rfl := Option.some.inj H
   repeat clear H
   go_wp2
   go_ret
   exact ⟨eR, dS⟩
  ·have H' := am H
   repeat clear H
   have Z15 := cz2 a3
   go_wp2
   go_loopg [33] kj1 (fun kq v33 w' => ∃ (eU : Int), v33 = .int .i64 eU ∧ aA (aN.l0 kq aI (aI.length : Int) eU aY aI = some r) ∧ aA (kq ≤ kj1) ∧ aA (w'.heap[aJ]? = some (.cells #[(.slice eL aY.length eO), (.slice fJ aI.length eJ)] 31 (0, 0))) ∧ aA (Below w.heap.size w w'))
   case atStart => exact ⟨(0), dH, H', ⟨Nat.le_refl _⟩, ⟨rB a3.1⟩, ⟨dS⟩⟩
   case round =>
    clear H'
    try clear Rl
    try clear Z15
    obtain ⟨eU, rfl, HA, HK2, a3, HB⟩ := hrel
    cases gk with
    | zero => exact absurd HA.out (by simp [aN.l0])
    | succ k2 =>
     have H := HA.out
     clear HA
     simp only [aN.l0] at H
     refine ic H ?_ ?_ <;> clear H <;> intro IE H
     ·obtain ⟨La, H⟩ := cN H
      obtain ⟨vO, H⟩ := cN H
      have ZC := am H
      clear H
      obtain ⟨lW, sB, sD, sC, sE, vA, rO, xL, xM, rE, rC, wA, vW, JC, JE⟩ := aT56 dO HB eU
      cases vA
      go_upto_region 6 with (first | ((with_reducible refine gD 4 ?_); (try (refine nE (by rfl) ?_; dsimp only)); refine bX 4 #[.string (⟨#[]⟩ : ByteArray), .slice none 0 0, .slice none 0 0] 56 ?_; intro yS hg Hw hbox hb; have hP := am hbox; have mx := am (GG : w.heap.size ≤ yS); have JL := mx; replace HB := bS dS hb; have tU := nL aQ hg; have LI := nG aQ hg; replace a3 := bB aQ hb; clear hb hbox hg; have Z21 := nZ1 LI tU; have Z22 := cz3 hP))
      (try simp only [Act.put, List.setIfInBounds_toArray, List.set_cons_zero, List.set_cons_succ])
      go_cut [73] (fun v73 wc => ∃ (kq : Nat) (Bu : Bool), v73 = .bool Bu ∧ aA (aN.j2 kq eU aI (aI.length : Int) eU Bu aY aI ((aC aI eU).f0) ((aC aI eU).f1) ((aC aI eU).f2) = some r) ∧ aA (kq ≤ k2) ∧ aA (wc.heap[aJ]? = some (.cells #[(.slice eL aY.length eO), (.slice (some lW) aI.length eJ)] 31 (0, 0))) ∧ aA (wc.heap[yS]? = some (.cells #[.string ((aC aI eU).f0), (.slice sB ((aC aI eU).f1).length sD), (.slice sC ((aC aI eU).f2).length sE)] 56 (0, 0))) ∧ aA (Below w.heap.size w wc))
      case first =>
       have H := ZC.1
       clear ZC
       obtain ⟨fO, WP, H⟩ := bd H
       refine tC H ?_ ?_ <;> clear H <;> intro X9 H <;> subst X9
       ·by_cases Vx : eU > 0
        ·rw [if_pos Vx] at H
         have PJ : decide (0 < eU) = true := decide_eq_true Vx
         clear Vx
         (first | rw [PJ] | (simp only [mV, pE]; rw [PJ]) | skip)
         obtain ⟨ji26, hji26⟩ : ∃ j_ : Int, (wrap64 (eU - 1)) = j_ := ⟨_, rfl⟩
         replace H : (if 0 ≤ (ji26) then (if (ji26) < (aI.length : Int) then (if ((Op.bytesLess (((aC aI (ji26)).f0).toList) (((aC aI eU).f0).toList)) = true) then ((jA.f k2 ((aC aI eU).f2) aY).bind fun fW => (if fW = true then ((jA.f k2 ((aC aI eU).f1) ((aC aI eU).f2)).bind fun DR => (aN.j2 k2 eU aI (aI.length : Int) eU (!DR) aY aI ((aC aI eU).f0) ((aC aI eU).f1) ((aC aI eU).f2))) else (aN.j2 k2 eU aI (aI.length : Int) eU true aY aI ((aC aI eU).f0) ((aC aI eU).f1) ((aC aI eU).f2)))) else (aN.j2 k2 eU aI (aI.length : Int) eU true aY aI ((aC aI eU).f0) ((aC aI eU).f1) ((aC aI eU).f2))) else (none)) else (none)) = some r := by first | (rw [hji26] at H; exact H) | (simp only [hji26] at H ⊢; exact H)
         (try rw [hji26] at WP)
         have hji26w : (IntKind.i64.wrap (eU - 1)) = ji26 := (mV _).trans hji26
         obtain ⟨XA, H⟩ := cN H
         obtain ⟨Lc, H⟩ := cN H
         refine tC H ?_ ?_ <;> clear H <;> intro Dr H
         ·obtain ⟨fW, Ca, H⟩ := bd H
          refine tC H ?_ ?_ <;> clear H <;> intro Vz H <;> subst Vz
          ·obtain ⟨DR, ju, H⟩ := bd H
           have H' := am H
           repeat clear H
           try go_wp2
           obtain ⟨Pv, eW_⟩ := eW3 Hw yS (.string ((aC aI eU).f0)) (.slice sB ((aC aI eU).f1).length sD) (.slice sC ((aC aI eU).f2).length sE)
           rw [← eW_]
           replace a3 := uF3 eW_ a3 tU
           replace hP := uP3 eW_ hP
           replace HB := uC3 eW_ HB JL
           clear eW_
           replace a3 := BD a3
           replace hP := BD hP
           replace HB := am (aV HB.1)
           obtain ⟨MT, YN, ZP, YO, ZQ, Aj, oV, oW, oX, EY, zA, zB, ED, TN, EE, TO, gq, ia⟩ := wW dO HB (ji26)
           obtain rfl : lW = MT := (by injection Aj)
           refine sT [] 36 (uB3 hP (uB2 a3 (uBx HB oV (uBx HB oW (uAx HB oX))))) (fun hHeld => ?_)
           refine dZ aN.tab6 aN.wX (fun HT_ HW_ => ?_)
           generalize Pv.drew = ln at a3 hP HB ED EE EY zA zB hHeld ⊢
           refine pU1 0 ?_
           refine tK8 1 (some 39) ?_
           refine oN 2 (some 40) fun K hK => ?_
           refine gQ Try.func77 (dX.calls k2 ((aC aI eU).f0) true _ WP.out) ?_
           rintro w' ⟨nd, rfl⟩
           refine nK hK (uB3 hP (uB2 a3 (uBx HB oV (uBx HB oW (uAx HB oX))))).1 fun hHeld => ?_
           clear hK K
           refine pU8 3 4 5 6 7 8 10 11 ?_
           refine pU1 15 ?_
           refine tK8 9 (some 47) ?_
           refine pU2 12 13 ?_
           refine tK8 14 (some 52) ?_
           refine tK8 16 (some 54) ?_
           refine pU6 17 18 19 20 21 23 ?_
           refine tK8 22 (some 60) ?_
           refine tK8 24 (some 62) ?_
           refine oN 25 (some 63) fun K hK => ?_
           refine gQ Try.func74 (jA.calls k2 _ _ ((aC aI eU).f2) _ _ aY true _ (pC (Kd.bK wA.1 BI)) vW.1 (pC (Kd.bK eQ.1 BI)) eP.1 Ca.out) ?_
           rintro w' ⟨nd, rfl⟩
           refine nK hK (uB3 hP (uB2 a3 (uBx HB oV (uBx HB oW (uAx HB oX))))).1 fun hHeld => ?_
           clear hK K
           refine pU5 26 27 28 29 31 ?_
           refine tK8 30 (some 68) ?_
           refine tK8 32 (some 70) ?_
           refine oN 33 (some 71) fun K hK => ?_
           refine gQ Try.func74 (jA.calls k2 _ _ ((aC aI eU).f1) _ _ ((aC aI eU).f2) DR _ (pC (Kd.bK rE.1 BI)) rC.1 (pC (Kd.bK wA.1 BI)) vW.1 ju.out) ?_
           rintro w' ⟨nd, rfl⟩
           refine nK hK (uB3 hP (uB2 a3 (uBx HB oV (uBx HB oW (uAx HB oX))))).1 fun hHeld => ?_
           clear hK K
           refine pU2 34 35 ?_
           refine dN ?_
           try go_wp2
           go_meet
           case rel => exact ⟨_, (!DR), dH, H', ⟨by have := HJ1.out; have := HK2.out; first | omega | exact Nat.le_refl _⟩, ⟨rB a3.1⟩, ⟨rB hP.1⟩, ⟨BI⟩⟩
          ·have H' := am H
           repeat clear H
           try go_wp2
           obtain ⟨jj, eW_⟩ := eW3 Hw yS (.string ((aC aI eU).f0)) (.slice sB ((aC aI eU).f1).length sD) (.slice sC ((aC aI eU).f2).length sE)
           rw [← eW_]
           replace a3 := uF3 eW_ a3 tU
           replace hP := uP3 eW_ hP
           replace HB := uC3 eW_ HB JL
           clear eW_
           replace a3 := BD a3
           replace hP := BD hP
           replace HB := am (aV HB.1)
           obtain ⟨MT, YN, ZP, YO, ZQ, Aj, oV, oW, oX, EY, zA, zB, ED, TN, EE, TO, gq, ia⟩ := wW dO HB (ji26)
           obtain rfl : lW = MT := (by injection Aj)
           refine sT [] 36 (uB3 hP (uB2 a3 (uBx HB oV (uBx HB oW (uAx HB oX))))) (fun hHeld => ?_)
           refine dZ aN.tab6 aN.wX (fun HT_ HW_ => ?_)
           generalize jj.drew = Ou at a3 hP HB ED EE EY zA zB hHeld ⊢
           refine pU1 0 ?_
           refine tK8 1 (some 39) ?_
           refine oN 2 (some 40) fun K hK => ?_
           refine gQ Try.func77 (dX.calls k2 ((aC aI eU).f0) true _ WP.out) ?_
           rintro w' ⟨nd, rfl⟩
           refine nK hK (uB3 hP (uB2 a3 (uBx HB oV (uBx HB oW (uAx HB oX))))).1 fun hHeld => ?_
           clear hK K
           refine pU8 3 4 5 6 7 8 10 11 ?_
           refine pU1 15 ?_
           refine tK8 9 (some 47) ?_
           refine pU2 12 13 ?_
           refine tK8 14 (some 52) ?_
           refine tK8 16 (some 54) ?_
           refine pU6 17 18 19 20 21 23 ?_
           refine tK8 22 (some 60) ?_
           refine tK8 24 (some 62) ?_
           refine oN 25 (some 63) fun K hK => ?_
           refine gQ Try.func74 (jA.calls k2 _ _ ((aC aI eU).f2) _ _ aY false _ (pC (Kd.bK wA.1 BI)) vW.1 (pC (Kd.bK eQ.1 BI)) eP.1 Ca.out) ?_
           rintro w' ⟨nd, rfl⟩
           refine nK hK (uB3 hP (uB2 a3 (uBx HB oV (uBx HB oW (uAx HB oX))))).1 fun hHeld => ?_
           clear hK K
           refine pU3 26 27 28 ?_
           refine pV6 29 30 31 32 33 34 ?_
           refine pU1 35 ?_
           refine dN ?_
           try go_wp2
           go_meet
           case rel => exact ⟨_, (true), dH, H', ⟨by have := HJ1.out; have := HK2.out; first | omega | exact Nat.le_refl _⟩, ⟨rB a3.1⟩, ⟨rB hP.1⟩, ⟨BI⟩⟩
         ·have H' := am H
          repeat clear H
          try go_wp2
          obtain ⟨Ov, eW_⟩ := eW3 Hw yS (.string ((aC aI eU).f0)) (.slice sB ((aC aI eU).f1).length sD) (.slice sC ((aC aI eU).f2).length sE)
          rw [← eW_]
          replace a3 := uF3 eW_ a3 tU
          replace hP := uP3 eW_ hP
          replace HB := uC3 eW_ HB JL
          clear eW_
          replace a3 := BD a3
          replace hP := BD hP
          replace HB := am (aV HB.1)
          obtain ⟨MT, YN, ZP, YO, ZQ, Aj, oV, oW, oX, EY, zA, zB, ED, TN, EE, TO, gq, ia⟩ := wW dO HB (ji26)
          obtain rfl : lW = MT := (by injection Aj)
          refine sT [] 36 (uB3 hP (uB2 a3 (uBx HB oV (uBx HB oW (uAx HB oX))))) (fun hHeld => ?_)
          refine dZ aN.tab6 aN.wX (fun HT_ HW_ => ?_)
          generalize Ov.drew = Hx at a3 hP HB ED EE EY zA zB hHeld ⊢
          refine pU1 0 ?_
          refine tK8 1 (some 39) ?_
          refine oN 2 (some 40) fun K hK => ?_
          refine gQ Try.func77 (dX.calls k2 ((aC aI eU).f0) true _ WP.out) ?_
          rintro w' ⟨nd, rfl⟩
          refine nK hK (uB3 hP (uB2 a3 (uBx HB oV (uBx HB oW (uAx HB oX))))).1 fun hHeld => ?_
          clear hK K
          refine pU8 3 4 5 6 7 8 10 11 ?_
          refine pU1 15 ?_
          refine tK8 9 (some 47) ?_
          refine pU2 12 13 ?_
          refine tK8 14 (some 52) ?_
          refine tK8 16 (some 54) ?_
          refine pU4 17 18 19 20 ?_
          refine pV6 21 22 23 24 25 26 ?_
          refine pU2 27 28 ?_
          refine pV6 29 30 31 32 33 34 ?_
          refine pU1 35 ?_
          refine dN ?_
          try go_wp2
          go_meet
          case rel => exact ⟨_, (true), dH, H', ⟨by have := HJ1.out; have := HK2.out; first | omega | exact Nat.le_refl _⟩, ⟨rB a3.1⟩, ⟨rB hP.1⟩, ⟨BI⟩⟩
        ·rw [if_neg Vx] at H
         have PJ : decide (0 < eU) = false := decide_eq_false Vx
         clear Vx
         (first | rw [PJ] | (simp only [mV, pE]; rw [PJ]) | skip)
         obtain ⟨vD, A39, H⟩ := bd H
         refine tC H ?_ ?_ <;> clear H <;> intro jy H <;> subst jy
         ·obtain ⟨dD, lu, H⟩ := bd H
          have H' := am H
          repeat clear H
          try go_wp2
          obtain ⟨w42, eW_⟩ := eW3 Hw yS (.string ((aC aI eU).f0)) (.slice sB ((aC aI eU).f1).length sD) (.slice sC ((aC aI eU).f2).length sE)
          rw [← eW_]
          replace a3 := uF3 eW_ a3 tU
          replace hP := uP3 eW_ hP
          replace HB := uC3 eW_ HB JL
          clear eW_
          replace a3 := BD a3
          replace hP := BD hP
          replace HB := am (aV HB.1)
          refine sT [] 36 (uB3 hP (uA2 a3)) (fun hHeld => ?_)
          refine dZ aN.tab6 aN.wX (fun HT_ HW_ => ?_)
          generalize w42.drew = lp at a3 hP HB hHeld ⊢
          refine pU1 0 ?_
          refine tK5 1 (some 39) ?_
          refine oN 2 (some 40) fun K hK => ?_
          refine gQ Try.func77 (dX.calls k2 ((aC aI eU).f0) true _ WP.out) ?_
          rintro w' ⟨nd, rfl⟩
          refine nK hK (uB3 hP (uA2 a3)).1 fun hHeld => ?_
          clear hK K
          refine pU5 3 4 5 6 7 ?_
          refine pV8 8 9 10 11 12 13 14 15 ?_
          refine pV2 16 17 ?_
          refine pU5 18 19 20 21 23 ?_
          refine tK5 22 (some 60) ?_
          refine tK5 24 (some 62) ?_
          refine oN 25 (some 63) fun K hK => ?_
          refine gQ Try.func74 (jA.calls k2 _ _ ((aC aI eU).f2) _ _ aY true _ (pC (Kd.bK wA.1 BI)) vW.1 (pC (Kd.bK eQ.1 BI)) eP.1 A39.out) ?_
          rintro w' ⟨nd, rfl⟩
          refine nK hK (uB3 hP (uA2 a3)).1 fun hHeld => ?_
          clear hK K
          refine pU5 26 27 28 29 31 ?_
          refine tK5 30 (some 68) ?_
          refine tK5 32 (some 70) ?_
          refine oN 33 (some 71) fun K hK => ?_
          refine gQ Try.func74 (jA.calls k2 _ _ ((aC aI eU).f1) _ _ ((aC aI eU).f2) dD _ (pC (Kd.bK rE.1 BI)) rC.1 (pC (Kd.bK wA.1 BI)) vW.1 lu.out) ?_
          rintro w' ⟨nd, rfl⟩
          refine nK hK (uB3 hP (uA2 a3)).1 fun hHeld => ?_
          clear hK K
          refine pU2 34 35 ?_
          refine dN ?_
          try go_wp2
          go_meet
          case rel => exact ⟨_, (!dD), dH, H', ⟨by have := HJ1.out; have := HK2.out; first | omega | exact Nat.le_refl _⟩, ⟨rB a3.1⟩, ⟨rB hP.1⟩, ⟨BI⟩⟩
         ·have H' := am H
          repeat clear H
          try go_wp2
          obtain ⟨lq, eW_⟩ := eW3 Hw yS (.string ((aC aI eU).f0)) (.slice sB ((aC aI eU).f1).length sD) (.slice sC ((aC aI eU).f2).length sE)
          rw [← eW_]
          replace a3 := uF3 eW_ a3 tU
          replace hP := uP3 eW_ hP
          replace HB := uC3 eW_ HB JL
          clear eW_
          replace a3 := BD a3
          replace hP := BD hP
          replace HB := am (aV HB.1)
          refine sT [] 36 (uB3 hP (uA2 a3)) (fun hHeld => ?_)
          refine dZ aN.tab6 aN.wX (fun HT_ HW_ => ?_)
          generalize lq.drew = w45 at a3 hP HB hHeld ⊢
          refine pU1 0 ?_
          refine tK5 1 (some 39) ?_
          refine oN 2 (some 40) fun K hK => ?_
          refine gQ Try.func77 (dX.calls k2 ((aC aI eU).f0) true _ WP.out) ?_
          rintro w' ⟨nd, rfl⟩
          refine nK hK (uB3 hP (uA2 a3)).1 fun hHeld => ?_
          clear hK K
          refine pU5 3 4 5 6 7 ?_
          refine pV8 8 9 10 11 12 13 14 15 ?_
          refine pV2 16 17 ?_
          refine pU5 18 19 20 21 23 ?_
          refine tK5 22 (some 60) ?_
          refine tK5 24 (some 62) ?_
          refine oN 25 (some 63) fun K hK => ?_
          refine gQ Try.func74 (jA.calls k2 _ _ ((aC aI eU).f2) _ _ aY false _ (pC (Kd.bK wA.1 BI)) vW.1 (pC (Kd.bK eQ.1 BI)) eP.1 A39.out) ?_
          rintro w' ⟨nd, rfl⟩
          refine nK hK (uB3 hP (uA2 a3)).1 fun hHeld => ?_
          clear hK K
          refine pU3 26 27 28 ?_
          refine pV6 29 30 31 32 33 34 ?_
          refine pU1 35 ?_
          refine dN ?_
          try go_wp2
          go_meet
          case rel => exact ⟨_, (true), dH, H', ⟨by have := HJ1.out; have := HK2.out; first | omega | exact Nat.le_refl _⟩, ⟨rB a3.1⟩, ⟨rB hP.1⟩, ⟨BI⟩⟩
       ·have H' := am H
        repeat clear H
        try go_wp2
        obtain ⟨QF, eW_⟩ := eW3 Hw yS (.string ((aC aI eU).f0)) (.slice sB ((aC aI eU).f1).length sD) (.slice sC ((aC aI eU).f2).length sE)
        rw [← eW_]
        replace a3 := uF3 eW_ a3 tU
        replace hP := uP3 eW_ hP
        replace HB := uC3 eW_ HB JL
        clear eW_
        replace a3 := BD a3
        replace hP := BD hP
        replace HB := am (aV HB.1)
        refine sT [] 36 (uA3 hP) (fun hHeld => ?_)
        refine dZ aN.tab6 aN.wX (fun HT_ HW_ => ?_)
        generalize QF.drew = w47 at a3 hP HB hHeld ⊢
        refine pU1 0 ?_
        refine tK3 1 (some 39) ?_
        refine oN 2 (some 40) fun K hK => ?_
        refine gQ Try.func77 (dX.calls k2 ((aC aI eU).f0) false _ WP.out) ?_
        rintro w' ⟨nd, rfl⟩
        refine nK hK (uA3 hP).1 fun hHeld => ?_
        clear hK K
        refine pU2 3 4 ?_
        refine pV8 5 6 7 8 9 10 11 12 ?_
        refine pV6 13 14 15 16 17 18 ?_
        refine pU2 19 20 ?_
        refine pV6 21 22 23 24 25 26 ?_
        refine pU2 27 28 ?_
        refine pV6 29 30 31 32 33 34 ?_
        refine pU1 35 ?_
        refine dN ?_
        try go_wp2
        go_meet
        case rel => exact ⟨_, (true), dH, H', ⟨by have := HJ1.out; have := HK2.out; first | omega | exact Nat.le_refl _⟩, ⟨rB a3.1⟩, ⟨rB hP.1⟩, ⟨BI⟩⟩
      case rest =>
       clear ZC
       obtain ⟨kq, Bu, rfl, HA, ZE, a3, hP, HB⟩ := hcut
       cases kq with
       | zero => exact absurd HA.out (by simp [aN.j2])
       | succ kj18 =>
        have H := HA.out
        clear HA
        simp only [aN.j2] at H
        refine tC H ?_ ?_ <;> (repeat clear H) <;> intro c48 H <;> subst c48
        ·obtain rfl := Option.some.inj H
         repeat clear H
         go_wp2
         go_ret
         exact ⟨eR, BI⟩
        ·obtain ⟨XC, Ds, H⟩ := cP H
         obtain ⟨We, rf, H⟩ := cP H
         obtain ⟨sS, yP, H⟩ := bY H
         have H' := am H
         repeat clear H
         have Z51 := nZ1 tU LI
         have Z52 := cz2 a3
         have Tn : (eU : Int) ≤ ((aI.length : Int) : Int) := oT
         obtain ⟨i053, Xf, _, hsz53, _⟩ := info_parts rP
         have hroom53 : aI.length ≤ eJ := fP.1
         have hC53 : Kd.C k56 _ (some lW) aI.length aI := dO.1
         have hcut53 := PO (P := Try.prog) 29 56 .i64 Try.underlying29 Xf (some lW) aI.length eJ eU (oT) Tn hroom53
         have fb := Kd.Ig (m := (eU : Int).toNat) hC53 (by omega)
         have hy53 : sS.length = (eU : Int).toNat := (by rw [yP.out, List.length_take]; omega)
         rw [← yP.out] at fb
         rw [← hy53] at hcut53
         have Un := am fb
         have aBJ := am (show sS.length ≤ eJ from by omega)
         clear fb hC53 hroom53 Xf hsz53
         have KY53 := am hy53
         clear hy53
         replace Tn := eq_true Tn
         go_wp2
         go_loopg [79] kj18 (fun kq v79 w' => ∃ (y7 : Int), v79 = .int .i64 y7 ∧ aA (aN.l1 kq aI (aI.length : Int) eU sS (sS.length : Int) y7 aY aI ((aC aI eU).f0) ((aC aI eU).f1) ((aC aI eU).f2) = some r) ∧ aA (kq ≤ kj18) ∧ aA (w'.heap[aJ]? = some (.cells #[(.slice eL aY.length eO), (.slice (some lW) aI.length eJ)] 31 (0, 0))) ∧ aA (w'.heap[yS]? = some (.cells #[.string ((aC aI eU).f0), (.slice sB ((aC aI eU).f1).length sD), (.slice sC ((aC aI eU).f2).length sE)] 56 (0, 0))) ∧ aA (Below w.heap.size w w'))
         case atStart => exact ⟨(0), dH, H', ⟨Nat.le_refl _⟩, ⟨rB a3.1⟩, ⟨rB hP.1⟩, ⟨BI⟩⟩
         case round =>
          clear H'
          try clear c48
          try clear XC
          try clear Ds
          try clear We
          try clear rf
          try clear Tn Tn
          try clear Z52
          obtain ⟨y7, rfl, HA, HK4, a3, hP, HB⟩ := hrel
          cases gk with
          | zero => exact absurd HA.out (by simp [aN.l1])
          | succ k4 =>
           have H := HA.out
           clear HA
           simp only [aN.l1] at H
           refine ic H ?_ ?_ <;> clear H <;> intro S4 H
           obtain ⟨aFC, H⟩ := cN H
           obtain ⟨ri, H⟩ := cN H
           obtain ⟨wU, A57, H⟩ := bd H
           refine tC H ?_ ?_ <;> clear H <;> intro c58 H <;> subst c58
           obtain rfl := Option.some.inj H
           repeat clear H
           obtain ⟨Kj, TC, U7, YT, ZV, cf, So, Sq, Sr, TT, TR, Qs, Qk, a9F, a9S⟩ := aT56 Un HB y7
           obtain rfl : lW = Kj := (by injection cf)
           have Zn := trivial
           have oa := trivial
           rotate_left
           have H' := am H
           repeat clear H
           obtain ⟨Kj, TC, U7, YT, ZV, cf, So, Sq, Sr, TT, TR, Qs, Qk, a9F, a9S⟩ := aT56 Un HB y7
           obtain rfl : lW = Kj := (by injection cf)
           have Zn := trivial
           have oc := trivial
           rotate_left
           have H' := am H
           repeat clear H
           rotate_left
           all_goals
            go_wp2_with (first | ((with_reducible refine gD 6 ?_); revert Zn; intro Zn; (try (refine nE (by rfl) ?_; dsimp only)); refine bX 6 #[.string (⟨#[]⟩ : ByteArray), .slice none 0 0, .slice none 0 0] 56 ?_; intro XM hg aIE hbox hb; have Cc := am hbox; have nb := am (a9N : w.heap.size ≤ XM); have mu := nb; replace HB := bS BI hb; have LH := nL aQ hg; have Ga := nG aQ hg; replace a3 := bB aQ hb; have LJ := am (by rw [hg]; exact Nat.ne_of_lt (yB (g := yS) (o := .cells #[.string ((aC aI eU).f0), .slice sB ((aC aI eU).f1).length sD, .slice sC ((aC aI eU).f2).length sE] 56 (0, 0)) (rB hP.1)) : yS ≠ XM); have Gb := am (by rw [hg]; exact Nat.ne_of_gt (yB (g := yS) (o := .cells #[.string ((aC aI eU).f0), .slice sB ((aC aI eU).f1).length sD, .slice sC ((aC aI eU).f2).length sE] 56 (0, 0)) (rB hP.1)) : XM ≠ yS); replace hP := am (dL (g := yS) (o := .cells #[.string ((aC aI eU).f0), .slice sB ((aC aI eU).f1).length sD, .slice sC ((aC aI eU).f2).length sE] 56 (0, 0)) (rB hP.1) hb); clear hb hbox hg; have aC0 := nZ2 Ga LH Gb LJ; have aC1 := cz3 Cc; have aC2 := nZ1 LI tU; have aC3 := cz3 hP) | ((with_reducible refine gC 78 ?_); revert oa; intro oa; refine cQ (some 87) Try.func78 (oJ.calls _ _ ((aC aI eU).f1) _ _ ((aC sS y7).f1) true _ (Kd.bK rE.1 Y8) rC.1 (Kd.bK TT.1 Y8) TR.1 A57.out) ?_; rintro aIF hb; replace a3 := am (dL (g := aJ) (o := .cells #[.slice eL aY.length eO, .slice (some lW) aI.length eJ] 31 (0, 0)) (qF a3 LH) hb); replace hP := am (dL (g := yS) (o := .cells #[.string ((aC aI eU).f0), .slice sB ((aC aI eU).f1).length sD, .slice sC ((aC aI eU).f2).length sE] 56 (0, 0)) (qF hP LJ) hb); replace Cc := am (dL (g := XM) (o := .cells #[.string ((aC sS y7).f0), .slice TC ((aC sS y7).f1).length U7, .slice YT ((aC sS y7).f2).length ZV] 56 (0, 0)) pY0 hb); replace HB := bS Y8 hb; clear hb) | ((with_reducible refine gC 78 ?_); revert oc; intro oc; refine cQ (some 87) Try.func78 (oJ.calls _ _ ((aC aI eU).f1) _ _ ((aC sS y7).f1) false _ (Kd.bK rE.1 Y8) rC.1 (Kd.bK TT.1 Y8) TR.1 A57.out) ?_; rintro aIG hb; replace a3 := am (dL (g := aJ) (o := .cells #[.slice eL aY.length eO, .slice (some lW) aI.length eJ] 31 (0, 0)) (qF a3 LH) hb); replace hP := am (dL (g := yS) (o := .cells #[.string ((aC aI eU).f0), .slice sB ((aC aI eU).f1).length sD, .slice sC ((aC aI eU).f2).length sE] 56 (0, 0)) (qF hP LJ) hb); replace Cc := am (dL (g := XM) (o := .cells #[.string ((aC sS y7).f0), .slice TC ((aC sS y7).f1).length U7, .slice YT ((aC sS y7).f2).length ZV] 56 (0, 0)) pY0 hb); replace HB := bS Y8 hb; clear hb))
           ·go_ret
            exact ⟨eR, Y8⟩
           ·go_roundg k4
            case measure => have := HJ1.out; have := HK2.out; have := ZE.out; have := HK4.out; omega
            case rel => exact ⟨(wrap64 (y7 + 1)), dH, H', ⟨by have := HJ1.out; have := HK2.out; have := ZE.out; have := HK4.out; omega⟩, ⟨rB a3.1⟩, ⟨rB hP.1⟩, ⟨Y8⟩⟩
           ·go_roundg k4
            case measure => have := HJ1.out; have := HK2.out; have := ZE.out; have := HK4.out; omega
            case rel => exact ⟨(wrap64 (eU + 1)), dH, H', ⟨by have := HJ1.out; have := HK2.out; have := ZE.out; have := HK4.out; omega⟩, ⟨rB a3.1⟩, ⟨BI⟩⟩
     ·obtain rfl := Option.some.inj H
      repeat clear H
      go_wp2
      go_ret
      exact ⟨eR, dS⟩
end Go.Proofs.Ytaofjgnhapnndaa.Q
namespace Go.Proofs.Ytaofjgnhapnndaa.Q
open Go.RowKit Go.Proofs.YtaofjgnhapnndaaW.PrintWords Go.Proofs.YtaofjgnhapnndaaW.PrintLast Go.Proofs.YtaofjgnhapnndaaW.PrintMore
set_option linter.unusedVariables false
set_option linter.unusedSimpArgs false
def fT.l0 : Nat → ByteArray → Int → List ByteArray → List (S56) → Option (Int)
 | 0, _, _, _, _ => none
 | k + 1, c, a, d, b => if a < (b.length : Int) then (if 0 ≤ a then (if ((aC b a).f0).toList = c.toList then (some a) else (fT.l0 k c (wrap64 (a + 1)) d b)) else (none)) else (some (-1))
def fT.f (k : Nat) (aY : List ByteArray) (aI : List (S56)) (a1 : ByteArray) : Option (Int) := fT.l0 k a1 0 aY aI
theorem fT.calls (k : Nat) (eL : Option Addr) (eO : Nat) (aY : List ByteArray) (fJ : Option Addr) (eJ : Nat) (aI : List (S56)) (a1 : ByteArray) (r : Int) (w : World) (iQ : Kd.C Kd.string w eL aY.length aY) (iO : aY.length ≤ eO) (iH : Kd.C k56 w fJ aI.length aI) (iP : aI.length ≤ eJ) (h : fT.f k aY aI a1 = some r) :
  Calls Try.prog 82 #[.agg #[.slice eL aY.length eO, .slice fJ aI.length eJ], .string a1] w fun e w' => e = .returned (.int .i64 r) ∧ Below w.heap.size w w' := by
 have hu31 := Try.underlying31
 obtain ⟨eQ, eP⟩ := mZ2 iQ iO
 obtain ⟨dO, fP⟩ := mZ2 iH iP
 clear iQ iO iH iP
 have HB := am (Below.refl w.heap.size w)
 unfold fT.f at h
 have H := h
 clear h
 have H' := am H
 repeat clear H
 go_enter Try.func82, Try.ntmps82
 go_wp2_with (first | ((with_reducible refine gD 2 ?_); refine bX 2 #[.slice eL aY.length eO, .slice fJ aI.length eJ] 31 ?_; intro aJ hg w3 hbox hb; have a3 := am hbox; have gH := am (u0 : w.heap.size ≤ aJ); have iE := gH; replace HB := bS eI hb; clear hb hbox hg))
 go_loopg [5] k (fun kq v5 w' => ∃ (bV : Int), v5 = .int .i64 bV ∧ aA (fT.l0 kq a1 bV aY aI = some r) ∧ aA (kq ≤ k) ∧ aA (w'.heap[aJ]? = some (.cells #[(.slice eL aY.length eO), (.slice fJ aI.length eJ)] 31 (0, 0))) ∧ aA (Below w.heap.size w w'))
 case atStart => exact ⟨(0), dH, H', ⟨Nat.le_refl _⟩, ⟨rB a3.1⟩, ⟨dS⟩⟩
 clear H'
 obtain ⟨bV, rfl, HA, HK1, a3, HB⟩ := hrel
 cases gk with
 | zero => exact absurd HA.out (by simp [fT.l0])
 | succ k1 =>
  have H := HA.out
  clear HA
  simp only [fT.l0] at H
  refine ic H ?_ ?_ <;> clear H <;> intro vT H
  ·obtain ⟨EO, H⟩ := cN H
   refine iq H ?_ ?_ <;> clear H <;> intro c6 PK ZZ H
   ·obtain rfl := Option.some.inj H
    repeat clear H
    have Z7 := cz2 a3
    obtain ⟨oC, sU, sX, sV, sY, sG, o2, oY, oZ, pS, pN, tP, tM, CV, CY⟩ := aT56 dO HB bV
    cases sG
    go_wp2
    go_ret
    exact ⟨eR, dS⟩
   ·have H' := am H
    repeat clear H
    have Z8 := cz2 a3
    obtain ⟨oC, sU, sX, sV, sY, sG, o2, oY, oZ, pS, pN, tP, tM, CV, CY⟩ := aT56 dO HB bV
    cases sG
    go_wp2
    go_roundg k1
    case measure => have := HK1.out; omega
    case rel => exact ⟨(wrap64 (bV + 1)), dH, H', ⟨by have := HK1.out; omega⟩, ⟨rB a3.1⟩, ⟨dS⟩⟩
  ·obtain rfl := Option.some.inj H
   repeat clear H
   have Z9 := cz2 a3
   go_wp2
   go_ret
   exact ⟨eR, dS⟩
def iX.l0 : Nat → Int → List ByteArray → Int → List ByteArray → List (S56) → Option (Bool)
 | 0, _, _, _, _, _ => none
 | k + 1, c, d, a, e, b => if a < (b.length : Int) then (if a = c then (iX.l0 k c d (wrap64 (a + 1)) e b) else (if 0 ≤ a then ((dK.f k d ((aC b a).f0)).bind fun g => (if g = true then (iX.l0 k c d (wrap64 (a + 1)) e b) else (if 0 ≤ c then (if c < (b.length : Int) then ((eX.f k ((aC b a).f1) ((aC b c).f2)).bind fun h => (if h = true then (some false) else (iX.l0 k c d (wrap64 (a + 1)) e b))) else (none)) else (none)))) else (none))) else (some true)
def iX.f (k : Nat) (aY : List ByteArray) (aI : List (S56)) (a1 : Int) (l2 : List ByteArray) : Option (Bool) := iX.l0 k a1 l2 0 aY aI
theorem iX.calls (k : Nat) (eL : Option Addr) (eO : Nat) (aY : List ByteArray) (fJ : Option Addr) (eJ : Nat) (aI : List (S56)) (a1 : Int) (A2 : Option Addr) (c2 : Nat) (l2 : List ByteArray) (r : Bool) (w : World) (iQ : Kd.C Kd.string w eL aY.length aY) (iO : aY.length ≤ eO) (iH : Kd.C k56 w fJ aI.length aI) (iP : aI.length ≤ eJ) (XW : Kd.C Kd.string w A2 l2.length l2) (XP : l2.length ≤ c2) (h : iX.f k aY aI a1 l2 = some r) :
  Calls Try.prog 83 #[.agg #[.slice eL aY.length eO, .slice fJ aI.length eJ], .int .i64 a1, .slice A2 l2.length c2] w fun e w' => e = .returned (.bool r) ∧ Below w.heap.size w w' := by
 have hu31 := Try.underlying31
 obtain ⟨eQ, eP⟩ := mZ2 iQ iO
 obtain ⟨dO, fP⟩ := mZ2 iH iP
 obtain ⟨IX, D0⟩ := mZ2 XW XP
 clear iQ iO iH iP XW XP
 have HB := am (Below.refl w.heap.size w)
 unfold iX.f at h
 have H := h
 clear h
 have H' := am H
 repeat clear H
 go_enter Try.func83, Try.ntmps83
 go_wp2_with (first | ((with_reducible refine gD 3 ?_); refine bX 3 #[.slice eL aY.length eO, .slice fJ aI.length eJ] 31 ?_; intro aJ hg w4 hbox hb; have a3 := am hbox; have gH := am (u0 : w.heap.size ≤ aJ); have iE := gH; replace HB := bS eI hb; clear hb hbox hg))
 repeat (go_quiet (first | ((with_reducible refine gD 3 ?_); refine bX 3 #[.slice eL aY.length eO, .slice fJ aI.length eJ] 31 ?_; intro aJ hg w4 hbox hb; have a3 := am hbox; have gH := am (u0 : w.heap.size ≤ aJ); have iE := am (u0 : w.heap.size ≤ aJ); replace HB := bS eI hb; clear hb hbox hg)); try go_wp2_with (first | ((with_reducible refine gD 3 ?_); refine bX 3 #[.slice eL aY.length eO, .slice fJ aI.length eJ] 31 ?_; intro aJ hg w4 hbox hb; have a3 := am hbox; have gH := am (u0 : w.heap.size ≤ aJ); have iE := am (u0 : w.heap.size ≤ aJ); replace HB := bS eI hb; clear hb hbox hg)))
 go_loopg [7] k (fun kq v7 w' => ∃ (kW : Int), v7 = .int .i64 kW ∧ aA (iX.l0 kq a1 l2 kW aY aI = some r) ∧ aA (kq ≤ k) ∧ aA (w'.heap[aJ]? = some (.cells #[(.slice eL aY.length eO), (.slice fJ aI.length eJ)] 31 (0, 0))) ∧ aA (Below w.heap.size w w'))
 case atStart => exact ⟨(0), dH, H', ⟨Nat.le_refl _⟩, ⟨rB a3.1⟩, ⟨dS⟩⟩
 clear H'
 try clear c2
 obtain ⟨kW, rfl, HA, HK1, a3, HB⟩ := hrel
 cases gk with
 | zero => exact absurd HA.out (by simp [iX.l0])
 | succ k1 =>
  have H := HA.out
  clear HA
  simp only [iX.l0] at H
  refine ic H ?_ ?_ <;> clear H <;> intro EO H
  refine iq H ?_ ?_ <;> clear H <;> intro c6 PK ZZ H
  have H' := am H
  repeat clear H
  have Z7 := cz2 a3
  rotate_left
  obtain ⟨HY, H⟩ := cN H
  obtain ⟨eK, A9, H⟩ := bd H
  refine tC H ?_ ?_ <;> clear H <;> intro X7 H <;> subst X7
  have H' := am H
  repeat clear H
  have Po := cz2 a3
  obtain ⟨oC, sU, sX, sV, sY, sG, o2, oY, oZ, pS, pN, tP, tM, CV, CY⟩ := aT56 dO HB kW
  cases sG
  have od := trivial
  rotate_left
  obtain ⟨MU, H⟩ := cN H
  obtain ⟨MV, H⟩ := cN H
  obtain ⟨fO, Hu, H⟩ := bd H
  refine tC H ?_ ?_ <;> clear H <;> intro az H <;> subst az
  obtain rfl := Option.some.inj H
  repeat clear H
  have Z16 := cz2 a3
  obtain ⟨oC, sU, sX, sV, sY, sG, o2, oY, oZ, pS, pN, tP, tM, CV, CY⟩ := aT56 dO HB kW
  cases sG
  have Zo := trivial
  have oe := trivial
  rotate_left
  have H' := am H
  repeat clear H
  have Z17 := cz2 a3
  obtain ⟨oC, sU, sX, sV, sY, sG, o2, oY, oZ, pS, pN, tP, tM, CV, CY⟩ := aT56 dO HB kW
  cases sG
  have Zo := trivial
  have og := trivial
  rotate_left
  obtain rfl := Option.some.inj H
  repeat clear H
  have yg := cz2 a3
  rotate_left
  all_goals
   go_wp2_with (first | (go_at_call 80; revert od; intro od; revert A9; intro A9; refine cM (dK.calls k1 _ _ l2 ((aC aI kW).f0) true _ (pB IX) D0.1 A9.out) ?_; rintro w' ⟨nd, rfl⟩; (try exact dR); clear A9) | (go_at_call 80; revert Zo; intro Zo; revert A9; intro A9; refine cM (dK.calls k1 _ _ l2 ((aC aI kW).f0) false _ (pB IX) D0.1 A9.out) ?_; rintro w' ⟨nd, rfl⟩; (try exact dR); obtain ⟨lW, sB, sD, sC, sE, vA, rO, xL, xM, rE, rC, wA, vW, JC, JE⟩ := aT56 dO HB kW; obtain rfl : oC = lW := (by injection vA); obtain ⟨ea_, ec_⟩ := eZ2 oY xL; subst ea_; subst ec_; obtain ⟨ea_, ec_⟩ := eZ2 oZ xM; subst ea_; subst ec_; obtain ⟨DA, LE, LW, LF, LX, M0, BV, BX, BZ, BQ, GL, qJ, sJ, Gz, QU⟩ := aT56 dO HB a1; obtain rfl : oC = DA := (by injection M0); clear A9) | (go_at_call 72; revert oe; intro oe; revert Hu; intro Hu; refine cM (eX.calls k1 _ _ ((aC aI kW).f1) _ _ ((aC aI a1).f2) true _ (pC (Kd.bK rE.1 dS)) rC.1 (pC (Kd.bK qJ.1 dS)) sJ.1 Hu.out) ?_; rintro w' ⟨nd, rfl⟩; (try exact dR); clear Hu) | (go_at_call 72; revert og; intro og; revert Hu; intro Hu; refine cM (eX.calls k1 _ _ ((aC aI kW).f1) _ _ ((aC aI a1).f2) false _ (pC (Kd.bK rE.1 dS)) rC.1 (pC (Kd.bK qJ.1 dS)) sJ.1 Hu.out) ?_; rintro w' ⟨nd, rfl⟩; (try exact dR); clear Hu))
  ·repeat (go_quiet (fail); try go_wp2)
   go_roundg k1
   case measure => have := HK1.out; omega
   case rel => exact ⟨(wrap64 (kW + 1)), dH, H', ⟨by have := HK1.out; omega⟩, ⟨rB a3.1⟩, ⟨dS⟩⟩
  ·repeat (go_quiet (first | (go_at_call 80; refine cM (dK.calls k1 _ _ l2 ((aC aI kW).f0) true _ (pB IX) D0.1 A9.out) ?_; rintro w' ⟨nd, rfl⟩; (try exact dR))); try go_wp2_with (first | (go_at_call 80; refine cM (dK.calls k1 _ _ l2 ((aC aI kW).f0) true _ (pB IX) D0.1 A9.out) ?_; rintro w' ⟨nd, rfl⟩; (try exact dR))))
   go_roundg k1
   case measure => have := HK1.out; omega
   case rel => exact ⟨(wrap64 (kW + 1)), dH, H', ⟨by have := HK1.out; omega⟩, ⟨rB a3.1⟩, ⟨dS⟩⟩
  ·repeat (go_quiet (first | (go_at_call 80; refine cM (dK.calls k1 _ _ l2 ((aC aI kW).f0) false _ (pB IX) D0.1 A9.out) ?_; rintro w' ⟨nd, rfl⟩; (try exact dR); obtain ⟨lW, sB, sD, sC, sE, vA, rO, xL, xM, rE, rC, wA, vW, JC, JE⟩ := aT56 dO HB kW; obtain rfl : oC = lW := (by injection vA); have ea_ := Option.some.inj (oY.symm.trans xL); injection ea_ with ea_ en_ ec_; subst ea_; subst ec_; clear en_; have ea_ := Option.some.inj (oZ.symm.trans xM); injection ea_ with ea_ en_ ec_; subst ea_; subst ec_; clear en_; obtain ⟨DA, LE, LW, LF, LX, M0, BV, BX, BZ, BQ, GL, qJ, sJ, Gz, QU⟩ := aT56 dO HB a1; obtain rfl : oC = DA := (by injection M0)) | (go_at_call 72; refine cM (eX.calls k1 _ _ ((aC aI kW).f1) _ _ ((aC aI a1).f2) true _ (pC (Kd.bK rE.1 dS)) rC.1 (pC (Kd.bK qJ.1 dS)) sJ.1 Hu.out) ?_; rintro w' ⟨nd, rfl⟩; (try exact dR))); try go_wp2_with (first | (go_at_call 80; refine cM (dK.calls k1 _ _ l2 ((aC aI kW).f0) false _ (pB IX) D0.1 A9.out) ?_; rintro w' ⟨nd, rfl⟩; (try exact dR); obtain ⟨lW, sB, sD, sC, sE, vA, rO, xL, xM, rE, rC, wA, vW, JC, JE⟩ := aT56 dO HB kW; obtain rfl : oC = lW := (by injection vA); have ea_ := Option.some.inj (oY.symm.trans xL); injection ea_ with ea_ en_ ec_; subst ea_; subst ec_; clear en_; have ea_ := Option.some.inj (oZ.symm.trans xM); injection ea_ with ea_ en_ ec_; subst ea_; subst ec_; clear en_; obtain ⟨DA, LE, LW, LF, LX, M0, BV, BX, BZ, BQ, GL, qJ, sJ, Gz, QU⟩ := aT56 dO HB a1; obtain rfl : oC = DA := (by injection M0)) | (go_at_call 72; refine cM (eX.calls k1 _ _ ((aC aI kW).f1) _ _ ((aC aI a1).f2) true _ (pC (Kd.bK rE.1 dS)) rC.1 (pC (Kd.bK qJ.1 dS)) sJ.1 Hu.out) ?_; rintro w' ⟨nd, rfl⟩; (try exact dR))))
   go_ret
   exact ⟨eR, dS⟩
  ·repeat (go_quiet (first | (go_at_call 80; refine cM (dK.calls k1 _ _ l2 ((aC aI kW).f0) false _ (pB IX) D0.1 A9.out) ?_; rintro w' ⟨nd, rfl⟩; (try exact dR); obtain ⟨lW, sB, sD, sC, sE, vA, rO, xL, xM, rE, rC, wA, vW, JC, JE⟩ := aT56 dO HB kW; obtain rfl : oC = lW := (by injection vA); have ea_ := Option.some.inj (oY.symm.trans xL); injection ea_ with ea_ en_ ec_; subst ea_; subst ec_; clear en_; have ea_ := Option.some.inj (oZ.symm.trans xM); injection ea_ with ea_ en_ ec_; subst ea_; subst ec_; clear en_; obtain ⟨DA, LE, LW, LF, LX, M0, BV, BX, BZ, BQ, GL, qJ, sJ, Gz, QU⟩ := aT56 dO HB a1; obtain rfl : oC = DA := (by injection M0)) | (go_at_call 72; refine cM (eX.calls k1 _ _ ((aC aI kW).f1) _ _ ((aC aI a1).f2) false _ (pC (Kd.bK rE.1 dS)) rC.1 (pC (Kd.bK qJ.1 dS)) sJ.1 Hu.out) ?_; rintro w' ⟨nd, rfl⟩; (try exact dR))); try go_wp2_with (first | (go_at_call 80; refine cM (dK.calls k1 _ _ l2 ((aC aI kW).f0) false _ (pB IX) D0.1 A9.out) ?_; rintro w' ⟨nd, rfl⟩; (try exact dR); obtain ⟨lW, sB, sD, sC, sE, vA, rO, xL, xM, rE, rC, wA, vW, JC, JE⟩ := aT56 dO HB kW; obtain rfl : oC = lW := (by injection vA); have ea_ := Option.some.inj (oY.symm.trans xL); injection ea_ with ea_ en_ ec_; subst ea_; subst ec_; clear en_; have ea_ := Option.some.inj (oZ.symm.trans xM); injection ea_ with ea_ en_ ec_; subst ea_; subst ec_; clear en_; obtain ⟨DA, LE, LW, LF, LX, M0, BV, BX, BZ, BQ, GL, qJ, sJ, Gz, QU⟩ := aT56 dO HB a1; obtain rfl : oC = DA := (by injection M0)) | (go_at_call 72; refine cM (eX.calls k1 _ _ ((aC aI kW).f1) _ _ ((aC aI a1).f2) false _ (pC (Kd.bK rE.1 dS)) rC.1 (pC (Kd.bK qJ.1 dS)) sJ.1 Hu.out) ?_; rintro w' ⟨nd, rfl⟩; (try exact dR))))
   go_roundg k1
   case measure => have := HK1.out; omega
   case rel => exact ⟨(wrap64 (kW + 1)), dH, H', ⟨by have := HK1.out; omega⟩, ⟨rB a3.1⟩, ⟨dS⟩⟩
  ·repeat (go_quiet (fail); try go_wp2)
   go_ret
   exact ⟨eR, dS⟩
mutual
def cK.j0 : Nat → List ByteArray → Bool → List ByteArray → List (S56) → Option (Bool)
 | 0, _, _, _, _ => none
 | k + 1, a, b, c, d => if b = true then (some false) else (cK.l0 k a 0 c d)
def cK.l0 : Nat → List ByteArray → Int → List ByteArray → List (S56) → Option (Bool)
 | 0, _, _, _, _ => none
 | k + 1, b, a, c, d => if a < (b.length : Int) then (if 0 ≤ a then ((fT.f k c d (rdOf ByteArray.empty b a)).bind fun e => (if e < 0 then (some false) else (if a ≤ (b.length : Int) then ((dK.f k (b.take (a : Int).toNat) (rdOf ByteArray.empty b a)).bind fun g => (if g = true then (some false) else ((iX.f k c d e (b.take (a : Int).toNat)).bind fun h => (if h = true then (cK.l0 k b (wrap64 (a + 1)) c d) else (some false))))) else (none)))) else (none)) else (some true)
end
def cK.f (k : Nat) (aY : List ByteArray) (aI : List (S56)) (l1 : List ByteArray) : Option (Bool) := (aH.f k aY aI).bind fun a => (if a = true then (cK.j0 k l1 ((l1.length : Int) != (aI.length : Int)) aY aI) else (cK.j0 k l1 true aY aI))
def cK.T7 : Bool × List (List Nat × List Nat) := (true, [([], []), ([0], [0]), ([1], [1]), ([2], [2]), ([2], [2]), ([3, 4, 2], [2, 3, 4]), ([2], [2]), ([2], [2]), ([6, 7, 2], [2, 6, 7]), ([8, 2], [2, 8]), ([5, 9, 2, 2], [2, 5, 9]), ([2, 10], [2, 10]), ([11, 10], [11]), ([12], [12]), ([12], [12]), ([12], [12]), ([12], [12]), ([15, 16, 12], [12, 15, 16]), ([13, 14, 17, 12, 12], [12, 13, 14, 17]), ([18, 12], [12, 18]), ([12, 19], [12, 19])])
def cK.B7 : List Nat := [0, 1, 3, 7, 7, 31, 7, 7, 199, 455, 1023, 2047, 4095, 8191, 8191, 8191, 8191, 106495, 262143, 524287, 1048575]
theorem cK.tab7 : rtab .any (opsOf Try.f31 7) = cK.T7 := by kernel_rfl
theorem cK.uG : kM cK.T7.2 cK.B7 = true := by kernel_rfl
theorem cK.calls (k : Nat) (eL : Option Addr) (eO : Nat) (aY : List ByteArray) (fJ : Option Addr) (eJ : Nat) (aI : List (S56)) (A1 : Option Addr) (c1 : Nat) (l1 : List ByteArray) (r : Bool) (w : World) (iQ : Kd.C Kd.string w eL aY.length aY) (iO : aY.length ≤ eO) (iH : Kd.C k56 w fJ aI.length aI) (iP : aI.length ≤ eJ) (BF : Kd.C Kd.string w A1 l1.length l1) (DK : l1.length ≤ c1) (h : cK.f k aY aI l1 = some r) :
  Calls Try.prog 31 #[.agg #[.slice eL aY.length eO, .slice fJ aI.length eJ], .slice A1 l1.length c1] w fun e w' => e = .returned (.bool r) ∧ Below w.heap.size w w' := by
 have hu31 := Try.underlying31
 obtain ⟨eQ, eP⟩ := mZ2 iQ iO
 obtain ⟨dO, fP⟩ := mZ2 iH iP
 obtain ⟨tO, zK⟩ := mZ2 BF DK
 clear iQ iO iH iP BF DK
 have HB := am (Below.refl w.heap.size w)
 unfold cK.f at h
 have H := h
 clear h
 have ZD := am H
 clear H
 go_enter Try.func31, Try.ntmps31
 go_upto_region 1 with (first | ((with_reducible refine gD 2 ?_); (try (refine nE (by rfl) ?_; dsimp only)); refine bX 2 #[.slice eL aY.length eO, .slice fJ aI.length eJ] 31 ?_; intro aJ hg w4 hbox hb; have a3 := am hbox; have gH := am (u0 : w.heap.size ≤ aJ); have iE := gH; replace HB := bS eI hb; clear hb hbox hg))
 (try simp only [Act.put, List.setIfInBounds_toArray, List.set_cons_zero, List.set_cons_succ])
 go_cut [17] (fun v17 wc => ∃ (kq : Nat) (Pa : Bool), v17 = .bool Pa ∧ aA (cK.j0 kq l1 Pa aY aI = some r) ∧ aA (kq ≤ k) ∧ aA (wc.heap[aJ]? = some (.cells #[(.slice eL aY.length eO), (.slice fJ aI.length eJ)] 31 (0, 0))) ∧ aA (Below w.heap.size w wc))
 case first =>
  have H := ZD.1
  clear ZD
  obtain ⟨kQ, A5, H⟩ := bd H
  refine tC H ?_ ?_ <;> clear H <;> intro c6 H <;> subst c6
  ·have H' := am H
   repeat clear H
   have Z7 := cz2 a3
   go_wp2_with (first | ((with_reducible refine gC 22 ?_); refine cQ (some 8) Try.func22 (aH.calls k _ _ aY _ _ aI true _ (pB eQ) eP.1 (pB dO) fP.1 A5.out) ?_; rintro w8 hb; replace a3 := bB aQ hb; replace HB := bS dS hb; clear hb; have Z9 := cz2 a3))
   go_meet
   exact ⟨_, (((l1.length : Int) != (aI.length : Int))), dH, H', ⟨by first | omega | exact Nat.le_refl _⟩, ⟨rB a3.1⟩, ⟨dS⟩⟩
  have H' := am H
  repeat clear H
  have Z10 := cz2 a3
  go_wp2_with (first | ((with_reducible refine gC 22 ?_); refine cQ (some 8) Try.func22 (aH.calls k _ _ aY _ _ aI false _ (pB eQ) eP.1 (pB dO) fP.1 A5.out) ?_; rintro wm hb; replace a3 := bB aQ hb; replace HB := bS dS hb; clear hb))
  go_meet
  exact ⟨_, (true), dH, H', ⟨by first | omega | exact Nat.le_refl _⟩, ⟨rB a3.1⟩, ⟨dS⟩⟩
 clear ZD
 try clear c1
 obtain ⟨kq, Pa, rfl, HA, HJ2, a3, HB⟩ := hcut
 cases kq with
 | zero => exact absurd HA.out (by simp [cK.j0])
 | succ kj2 =>
  have H := HA.out
  clear HA
  simp only [cK.j0] at H
  refine tC H ?_ ?_ <;> (repeat clear H) <;> intro Rk H <;> subst Rk
  ·obtain rfl := Option.some.inj H
   repeat clear H
   go_wp2
   go_ret
   exact ⟨eR, dS⟩
  ·have H' := am H
   repeat clear H
   go_wp2
   go_loopg [5] kj2 (fun kq v5 w' => ∃ (nR : Int), v5 = .int .i64 nR ∧ aA (cK.l0 kq l1 nR aY aI = some r) ∧ aA (kq ≤ kj2) ∧ aA (w'.heap[aJ]? = some (.cells #[(.slice eL aY.length eO), (.slice fJ aI.length eJ)] 31 (0, 0))) ∧ aA (Below w.heap.size w w'))
   case atStart => exact ⟨(0), dH, H', ⟨Nat.le_refl _⟩, ⟨rB a3.1⟩, ⟨dS⟩⟩
   case round =>
    clear H'
    try clear c1
    try clear Rk
    obtain ⟨nR, rfl, HA, HK2, a3, HB⟩ := hrel
    cases gk with
    | zero => exact absurd HA.out (by simp [cK.l0])
    | succ k2 =>
     have H := HA.out
     clear HA
     simp only [cK.l0] at H
     refine ic H ?_ ?_ <;> clear H <;> intro MV H
     ·obtain ⟨S0, H⟩ := cN H
      obtain ⟨dI, YV, H⟩ := bd H
      refine ic H ?_ ?_ <;> clear H <;> intro IE H
      ·obtain rfl := Option.some.inj H
       repeat clear H
       try go_wp2
       replace a3 := BD a3
       replace HB := am (aV HB.1)
       obtain ⟨e4, oG, hU, j5, uK, uL⟩ := aSw tO HB nR
       cases oG
       refine sT [] 7 (uB2 a3 (uAx HB hU)) (fun hHeld => ?_)
       generalize wr.drew = Pu at a3 HB j5 hHeld ⊢
       refine pU0 1 (some 25) ?_
       refine pU0 2 (some 26) ?_
       refine pU0 3 (some 27) ?_
       refine tK3_ 0 (some 24) ?_
       refine tK3_ 4 (some 28) ?_
       refine oM 5 (some 29) fun K hK => ?_
       refine gQ Try.func82 (fT.calls k2 _ _ aY _ _ aI (rdOf ByteArray.empty l1 nR) dI _ (pB eQ) eP.1 (pB dO) fP.1 YV.out) ?_
       rintro w18 hb
       replace a3 := bB aQ hb
       replace HB := bS dS hb
       clear hb
       refine nK hK (uB2 a3 (uAx HB hU)).1 fun hHeld => ?_
       clear hK K
       refine pU0 6 (some 6) ?_
       refine JY (by kernel_rfl) ?_
       try go_wp2
       replace a3 := BD a3
       replace HB := am (aV HB.1)
       refine sT (S := fun w' => True) [] 21 ⟨trivial⟩ (fun hHeld => ?_)
       refine dZ cK.tab7 cK.uG (fun HT_ HW_ => ?_)
       generalize w18.drew = wq at a3 HB hHeld ⊢
       refine pU3 0 1 2 ?_
       refine pV8 3 4 5 6 7 8 9 10 ?_
       refine pU2 11 12 ?_
       refine pV7 13 14 15 16 17 18 19 ?_
       refine pU1 20 ?_
       refine dN ?_
       try go_wp2
       go_ret
       exact ⟨eR, dS⟩
      ·have Vu := eq_true (oT : 0 ≤ nR)
       obtain ⟨Vv, aET, H⟩ := cP H
       obtain ⟨e5, jt, H⟩ := bd H
       refine tC H ?_ ?_ <;> clear H <;> intro Gg H <;> subst Gg
       ·obtain rfl := Option.some.inj H
        repeat clear H
        try go_wp2
        replace a3 := BD a3
        replace HB := am (aV HB.1)
        obtain ⟨e4, oG, hU, j5, uK, uL⟩ := aSw tO HB nR
        cases oG
        refine sT [] 7 (uB2 a3 (uAx HB hU)) (fun hHeld => ?_)
        generalize wr.drew = ws at a3 HB j5 hHeld ⊢
        refine pU0 1 (some 25) ?_
        refine pU0 2 (some 26) ?_
        refine pU0 3 (some 27) ?_
        refine tK3_ 0 (some 24) ?_
        refine tK3_ 4 (some 28) ?_
        refine oM 5 (some 29) fun K hK => ?_
        refine gQ Try.func82 (fT.calls k2 _ _ aY _ _ aI (rdOf ByteArray.empty l1 nR) dI _ (pB eQ) eP.1 (pB dO) fP.1 YV.out) ?_
        rintro w25 hb
        replace a3 := bB aQ hb
        replace HB := bS dS hb
        clear hb
        refine nK hK (uB2 a3 (uAx HB hU)).1 fun hHeld => ?_
        clear hK K
        refine pU0 6 (some 6) ?_
        refine JY (by kernel_rfl) ?_
        try go_wp2
        replace a3 := BD a3
        replace HB := am (aV HB.1)
        obtain ⟨i027, Wv, _, hsz27, _⟩ := info_parts jT
        obtain ⟨hcut27, hA27, hC27⟩ := kD (P := Try.prog) Value.string (⟨#[]⟩ : ByteArray) 23 9 .i64 Try.underlying23 Wv hsz27 (some e4) c1 l1 nR (oT) (oT) zK.1
        have xT := am (Kd.kI (h1 := fun _ => rfl) (hA27 _ (Kd.kK tO.1)))
        have FT := am hC27
        clear hA27 hC27 Wv hsz27
        obtain ⟨vK, CS, mZ, p2, M8, GI⟩ := aSw tO HB nR
        obtain rfl : e4 = vK := (by injection CS)
        refine sT [] 21 (uAx HB mZ) (fun hHeld => ?_)
        refine dZ cK.tab7 cK.uG (fun HT_ HW_ => ?_)
        generalize w25.drew = lm at a3 HB xT p2 hHeld ⊢
        refine pU8 0 1 2 3 4 5 6 7 ?_
        refine pU1 8 ?_
        refine tK1 9 (some 39) ?_
        refine oN 10 (some 40) fun K hK => ?_
        refine wF Try.func80 (by kernel_rfl) rfl #[.slice (some e4) (l1.take (nR : Int).toNat).length c1, .string (rdOf ByteArray.empty l1 nR)] (by rfl) rfl rfl (by (try simp only [List.map_toArray, List.map_cons, List.map_nil]); first | done | (rw [show (l1.take (nR : Int).toNat).length = nR.toNat from (by rw [List.length_take]; have h_ : (nR : Int) ≤ (l1.length : Int) := oT; omega)] <;> rfl) | rfl | (simp only [List.length_drop, List.length_take]; rfl)) ?_
        with_reducible refine (dK.calls k2 _ _ (l1.take (nR : Int).toNat) (rdOf ByteArray.empty l1 nR) true _ ?side1 ?side2 jt.out).mono ?_
        (case side1 => exact pC (Kd.bK xT.1 HB.1))
        (case side2 => exact FT.1)
        rintro e w' ⟨rfl, ⟨nd, rfl⟩⟩
        refine ⟨_, rfl, ?_⟩
        refine nK hK (uAx HB mZ).1 fun hHeld => ?_
        clear hK K
        refine pU2 11 12 ?_
        refine pV7 13 14 15 16 17 18 19 ?_
        refine pU1 20 ?_
        refine dN ?_
        try go_wp2
        go_ret
        exact ⟨eR, dS⟩
       ·have Lc := eq_true (oT : 0 ≤ nR)
        have Dr := eq_true (oT : nR ≤ (l1.length : Int))
        obtain ⟨DR, Ca, H⟩ := bd H
        refine tC H ?_ ?_ <;> clear H <;> intro Vz H <;> subst Vz
        ·have H' := am H
         repeat clear H
         try go_wp2
         replace a3 := BD a3
         replace HB := am (aV HB.1)
         obtain ⟨e4, oG, hU, j5, uK, uL⟩ := aSw tO HB nR
         cases oG
         refine sT [] 7 (uB2 a3 (uAx HB hU)) (fun hHeld => ?_)
         generalize wr.drew = w32 at a3 HB j5 hHeld ⊢
         refine pU0 1 (some 25) ?_
         refine pU0 2 (some 26) ?_
         refine pU0 3 (some 27) ?_
         refine tK3_ 0 (some 24) ?_
         refine tK3_ 4 (some 28) ?_
         refine oM 5 (some 29) fun K hK => ?_
         refine gQ Try.func82 (fT.calls k2 _ _ aY _ _ aI (rdOf ByteArray.empty l1 nR) dI _ (pB eQ) eP.1 (pB dO) fP.1 YV.out) ?_
         rintro Pv hb
         replace a3 := bB aQ hb
         replace HB := bS dS hb
         clear hb
         refine nK hK (uB2 a3 (uAx HB hU)).1 fun hHeld => ?_
         clear hK K
         refine pU0 6 (some 6) ?_
         refine JY (by kernel_rfl) ?_
         try go_wp2
         replace a3 := BD a3
         replace HB := am (aV HB.1)
         obtain ⟨i035, XQ, _, hsz35, _⟩ := info_parts jT
         obtain ⟨hcut35, hA35, hC35⟩ := kD (P := Try.prog) Value.string (⟨#[]⟩ : ByteArray) 23 9 .i64 Try.underlying23 XQ hsz35 (some e4) c1 l1 nR (oT) (oT) zK.1
         have xT := am (Kd.kI (h1 := fun _ => rfl) (hA35 _ (Kd.kK tO.1)))
         have FT := am hC35
         clear hA35 hC35 XQ hsz35
         obtain ⟨vK, CS, mZ, p2, M8, GI⟩ := aSw tO HB nR
         obtain rfl : e4 = vK := (by injection CS)
         refine sT [] 21 (uB2 a3 (uAx HB mZ)) (fun hHeld => ?_)
         refine dZ cK.tab7 cK.uG (fun HT_ HW_ => ?_)
         generalize Pv.drew = ln at a3 HB xT p2 hHeld ⊢
         refine pU8 0 1 2 3 4 5 6 7 ?_
         refine pU1 8 ?_
         refine tK3 9 (some 39) ?_
         refine oN 10 (some 40) fun K hK => ?_
         refine wF Try.func80 (by kernel_rfl) rfl #[.slice (some e4) (l1.take (nR : Int).toNat).length c1, .string (rdOf ByteArray.empty l1 nR)] (by rfl) rfl rfl (by (try simp only [List.map_toArray, List.map_cons, List.map_nil]); first | done | (rw [show (l1.take (nR : Int).toNat).length = nR.toNat from (by rw [List.length_take]; have h_ : (nR : Int) ≤ (l1.length : Int) := oT; omega)] <;> rfl) | rfl | (simp only [List.length_drop, List.length_take]; rfl)) ?_
         with_reducible refine (dK.calls k2 _ _ (l1.take (nR : Int).toNat) (rdOf ByteArray.empty l1 nR) false _ ?side1 ?side2 jt.out).mono ?_
         (case side1 => exact pC (Kd.bK xT.1 HB.1))
         (case side2 => exact FT.1)
         rintro e w' ⟨rfl, ⟨nd, rfl⟩⟩
         refine ⟨_, rfl, ?_⟩
         obtain ⟨i036, XR, _, hsz36, _⟩ := info_parts jT
         obtain ⟨hcut36, hA36, hC36⟩ := kD (P := Try.prog) Value.string (⟨#[]⟩ : ByteArray) 23 9 .i64 Try.underlying23 XR hsz36 (some e4) c1 l1 nR (oT) (oT) zK.1
         have Ir := am (Kd.kI (h1 := fun _ => rfl) (hA36 _ (Kd.kK tO.1)))
         have Im := am hC36
         clear hA36 hC36 XR hsz36
         refine nK hK (uB2 a3 (uAx HB mZ)).1 fun hHeld => ?_
         clear hK K
         refine pU6 11 12 14 15 16 17 ?_
         refine tK3 13 (some 43) ?_
         refine oN 18 (some 48) fun K hK => ?_
         refine wF Try.func83 (by kernel_rfl) rfl #[.agg #[.slice eL aY.length eO, .slice fJ aI.length eJ], .int .i64 dI, .slice (some e4) (l1.take (nR : Int).toNat).length c1] (by rfl) rfl rfl (by (try simp only [List.map_toArray, List.map_cons, List.map_nil]); first | done | (rw [show (l1.take (nR : Int).toNat).length = nR.toNat from (by rw [List.length_take]; have h_ : (nR : Int) ≤ (l1.length : Int) := oT; omega)] <;> rfl) | rfl | (simp only [List.length_drop, List.length_take]; rfl)) ?_
         with_reducible refine (iX.calls k2 _ _ aY _ _ aI dI _ _ (l1.take (nR : Int).toNat) true _ ?side1 ?side2 ?side3 ?side4 ?side5 ?side6 Ca.out).mono ?_
         (case side1 => exact pC (Kd.bK eQ.1 dS))
         (case side2 => exact eP.1)
         (case side3 => exact pC (Kd.bK dO.1 dS))
         (case side4 => exact fP.1)
         (case side5 => exact pC (Kd.bK Ir.1 dS))
         (case side6 => exact Im.1)
         rintro e Ov ⟨rfl, hb⟩
         refine ⟨_, rfl, ?_⟩
         replace a3 := bB aQ hb
         replace HB := bS dS hb
         clear hb
         refine nK hK (uB2 a3 (uAx HB mZ)).1 fun hHeld => ?_
         clear hK K
         refine pU2 19 20 ?_
         refine dN ?_
         try go_wp2
         go_roundg k2
         case measure => have := HJ2.out; have := HK2.out; omega
         case rel => exact ⟨(wrap64 (nR + 1)), dH, H', ⟨by have := HJ2.out; have := HK2.out; omega⟩, ⟨rB a3.1⟩, ⟨dS⟩⟩
        ·obtain rfl := Option.some.inj H
         repeat clear H
         try go_wp2
         replace a3 := BD a3
         replace HB := am (aV HB.1)
         obtain ⟨e4, oG, hU, j5, uK, uL⟩ := aSw tO HB nR
         cases oG
         refine sT [] 7 (uB2 a3 (uAx HB hU)) (fun hHeld => ?_)
         generalize wr.drew = Hx at a3 HB j5 hHeld ⊢
         refine pU0 1 (some 25) ?_
         refine pU0 2 (some 26) ?_
         refine pU0 3 (some 27) ?_
         refine tK3_ 0 (some 24) ?_
         refine tK3_ 4 (some 28) ?_
         refine oM 5 (some 29) fun K hK => ?_
         refine gQ Try.func82 (fT.calls k2 _ _ aY _ _ aI (rdOf ByteArray.empty l1 nR) dI _ (pB eQ) eP.1 (pB dO) fP.1 YV.out) ?_
         rintro WQ hb
         replace a3 := bB aQ hb
         replace HB := bS dS hb
         clear hb
         refine nK hK (uB2 a3 (uAx HB hU)).1 fun hHeld => ?_
         clear hK K
         refine pU0 6 (some 6) ?_
         refine JY (by kernel_rfl) ?_
         try go_wp2
         replace a3 := BD a3
         replace HB := am (aV HB.1)
         obtain ⟨i041, Xb, _, hsz41, _⟩ := info_parts jT
         obtain ⟨hcut41, hA41, hC41⟩ := kD (P := Try.prog) Value.string (⟨#[]⟩ : ByteArray) 23 9 .i64 Try.underlying23 Xb hsz41 (some e4) c1 l1 nR (oT) (oT) zK.1
         have xT := am (Kd.kI (h1 := fun _ => rfl) (hA41 _ (Kd.kK tO.1)))
         have FT := am hC41
         clear hA41 hC41 Xb hsz41
         obtain ⟨vK, CS, mZ, p2, M8, GI⟩ := aSw tO HB nR
         obtain rfl : e4 = vK := (by injection CS)
         refine sT [] 21 (uB2 a3 (uAx HB mZ)) (fun hHeld => ?_)
         refine dZ cK.tab7 cK.uG (fun HT_ HW_ => ?_)
         generalize WQ.drew = w40 at a3 HB xT p2 hHeld ⊢
         refine pU8 0 1 2 3 4 5 6 7 ?_
         refine pU1 8 ?_
         refine tK3 9 (some 39) ?_
         refine oN 10 (some 40) fun K hK => ?_
         refine wF Try.func80 (by kernel_rfl) rfl #[.slice (some e4) (l1.take (nR : Int).toNat).length c1, .string (rdOf ByteArray.empty l1 nR)] (by rfl) rfl rfl (by (try simp only [List.map_toArray, List.map_cons, List.map_nil]); first | done | (rw [show (l1.take (nR : Int).toNat).length = nR.toNat from (by rw [List.length_take]; have h_ : (nR : Int) ≤ (l1.length : Int) := oT; omega)] <;> rfl) | rfl | (simp only [List.length_drop, List.length_take]; rfl)) ?_
         with_reducible refine (dK.calls k2 _ _ (l1.take (nR : Int).toNat) (rdOf ByteArray.empty l1 nR) false _ ?side1 ?side2 jt.out).mono ?_
         (case side1 => exact pC (Kd.bK xT.1 HB.1))
         (case side2 => exact FT.1)
         rintro e w' ⟨rfl, ⟨nd, rfl⟩⟩
         refine ⟨_, rfl, ?_⟩
         obtain ⟨i042, XS, _, hsz42, _⟩ := info_parts jT
         obtain ⟨hcut42, hA42, hC42⟩ := kD (P := Try.prog) Value.string (⟨#[]⟩ : ByteArray) 23 9 .i64 Try.underlying23 XS hsz42 (some e4) c1 l1 nR (oT) (oT) zK.1
         have Ir := am (Kd.kI (h1 := fun _ => rfl) (hA42 _ (Kd.kK tO.1)))
         have Im := am hC42
         clear hA42 hC42 XS hsz42
         refine nK hK (uB2 a3 (uAx HB mZ)).1 fun hHeld => ?_
         clear hK K
         refine pU6 11 12 14 15 16 17 ?_
         refine tK3 13 (some 43) ?_
         refine oN 18 (some 48) fun K hK => ?_
         refine wF Try.func83 (by kernel_rfl) rfl #[.agg #[.slice eL aY.length eO, .slice fJ aI.length eJ], .int .i64 dI, .slice (some e4) (l1.take (nR : Int).toNat).length c1] (by rfl) rfl rfl (by (try simp only [List.map_toArray, List.map_cons, List.map_nil]); first | done | (rw [show (l1.take (nR : Int).toNat).length = nR.toNat from (by rw [List.length_take]; have h_ : (nR : Int) ≤ (l1.length : Int) := oT; omega)] <;> rfl) | rfl | (simp only [List.length_drop, List.length_take]; rfl)) ?_
         with_reducible refine (iX.calls k2 _ _ aY _ _ aI dI _ _ (l1.take (nR : Int).toNat) false _ ?side1 ?side2 ?side3 ?side4 ?side5 ?side6 Ca.out).mono ?_
         (case side1 => exact pC (Kd.bK eQ.1 dS))
         (case side2 => exact eP.1)
         (case side3 => exact pC (Kd.bK dO.1 dS))
         (case side4 => exact fP.1)
         (case side5 => exact pC (Kd.bK Ir.1 dS))
         (case side6 => exact Im.1)
         rintro e lp ⟨rfl, hb⟩
         refine ⟨_, rfl, ?_⟩
         replace a3 := bB aQ hb
         replace HB := bS dS hb
         clear hb
         refine nK hK (uB2 a3 (uAx HB mZ)).1 fun hHeld => ?_
         clear hK K
         refine pU2 19 20 ?_
         refine dN ?_
         try go_wp2
         go_ret
         exact ⟨eR, dS⟩
     ·obtain rfl := Option.some.inj H
      repeat clear H
      go_wp2
      go_ret
      exact ⟨eR, dS⟩
end Go.Proofs.Ytaofjgnhapnndaa.Q
namespace Go.Proofs.Ytaofjgnhapnndaa.Q
open Go.RowKit Go.Proofs.YtaofjgnhapnndaaW.PrintWords Go.Proofs.YtaofjgnhapnndaaW.PrintLast Go.Proofs.YtaofjgnhapnndaaW.PrintMore
set_option linter.unusedVariables false
set_option linter.unusedSimpArgs false
abbrev IB := S56
def gB (l : List IB) (i : Nat) : IB := l.getD i z56
theorem jI (l : List IB) (i : Nat) : aC l (i : Int) = gB l i := by unfold aC gB; rw [Int.toNat_natCast]
theorem getD_lt {α : Type} (l : List α) (z : α) {i : Nat} (h : i < l.length) : l.getD i z = l[i] := by rw [List.getD_eq_getElem?_getD, List.getElem?_eq_getElem h]; rfl
theorem lD (n : Int) (h : -9223372036854775808 ≤ n ∧ n ≤ 9223372036854775807) : wrap64 n = n := by unfold wrap64; omega
def jE (l : List IB) : Nat := (l.map fun b => 1 + b.f1.length + b.f2.length).sum
theorem qD (b : IB) (r : List IB) : jE (b :: r) = 1 + b.f1.length + b.f2.length + jE r := by simp [jE]
theorem Ev.pos {α : Type} {c : Prop} [Decidable c] {a b : Nat → Option α} {r : α} (h : c) (H : Ev a r) : Ev (fun k => if c then a k else b k) r := by
 obtain ⟨K, hK⟩ := H
 exact ⟨K, fun k hk => by simp only [if_pos h]; exact hK k hk⟩
theorem Ev.neg {α : Type} {c : Prop} [Decidable c] {a b : Nat → Option α} {r : α} (h : ¬ c) (H : Ev b r) : Ev (fun k => if c then a k else b k) r := by
 obtain ⟨K, hK⟩ := H
 exact ⟨K, fun k hk => by simp only [if_neg h]; exact hK k hk⟩
theorem Ev.ret {α : Type} {r s : α} (h : r = s) : Ev (fun _ => some r) s := ⟨0, fun _ _ => by rw [h]⟩
theorem Ev.sub {α : Type} {g : Nat → Option α} {r s : α} (H : Ev g r) (h : r = s) : Ev g s := h ▸ H
theorem Ev.test {α : Type} {a b : Nat → Option α} {r : α} (t : Bool) (H1 : t = true → Ev a r) (H2 : t = false → Ev b r) : Ev (fun k => if t = true then a k else b k) r := by
 cases t with
 | true => exact Ev.pos rfl (H1 rfl)
 | false => exact Ev.neg (by simp) (H2 rfl)
theorem Ev.prop {α : Type} {c : Prop} [Decidable c] {a b : Nat → Option α} {r : α} (H1 : c → Ev a r) (H2 : ¬ c → Ev b r) : Ev (fun k => if c then a k else b k) r := by
 by_cases h : c
 ·exact Ev.pos h (H1 h)
 exact Ev.neg h (H2 h)
theorem Ev.loop {α : Type} {f : Nat → Nat → Option α} {val : Nat → α} (n : Nat) (hend : Ev (fun k => f k n) (val n))
    (hstep : ∀ i, i < n → Ev (fun k => f k (i + 1)) (val (i + 1)) → Ev (fun k => f k i) (val i)) : ∀ i, i ≤ n → Ev (fun k => f k i) (val i) := by
 intro i hi
 obtain ⟨d, hd⟩ : ∃ d, n - i = d := ⟨_, rfl⟩
 induction d generalizing i with
 | zero => have : i = n := by omega
           subst this; exact hend
 | succ d ih => exact hstep i (by omega) (ih (i + 1) (by omega) (by omega))
def allR (P : Nat → Bool) (n i : Nat) : Bool := (List.range' i (n - i)).all P
def anyR (P : Nat → Bool) (n i : Nat) : Bool := (List.range' i (n - i)).any P
theorem wC (P : Nat → Bool) (n : Nat) : allR P n n = true := by simp [allR]
theorem X5 (P : Nat → Bool) (n : Nat) : anyR P n n = false := by simp [anyR]
theorem tX (P : Nat → Bool) {n i : Nat} (h : i < n) : allR P n i = (P i && allR P n (i + 1)) := by
 unfold allR; rw [show n - i = (n - (i + 1)) + 1 by omega, List.range'_succ, List.all_cons]
theorem RY (P : Nat → Bool) {n i : Nat} (h : i < n) : anyR P n i = (P i || anyR P n (i + 1)) := by
 unfold anyR; rw [show n - i = (n - (i + 1)) + 1 by omega, List.range'_succ, List.any_cons]
theorem AA (P : Nat → Bool) (n i : Nat) : allR P n i = true ↔ ∀ j, i ≤ j → j < n → P j = true := by
 unfold allR; rw [List.all_eq_true]
 constructor
 ·intro h j h1 h2; exact h j (by rw [List.mem_range'_1]; omega)
 intro h j hj; rw [List.mem_range'_1] at hj; exact h j (by omega) (by omega)
theorem P7 (P : Nat → Bool) (n i : Nat) : anyR P n i = true ↔ ∃ j, i ≤ j ∧ j < n ∧ P j = true := by
 unfold anyR; rw [List.any_eq_true]
 constructor
 ·rintro ⟨j, hj, h⟩; rw [List.mem_range'_1] at hj; exact ⟨j, by omega, by omega, h⟩
 rintro ⟨j, h1, h2, h⟩; exact ⟨j, by rw [List.mem_range'_1]; omega, h⟩
theorem Ev.OL {f : Nat → Nat → Option Bool} {P : Nat → Bool} (n : Nat) (hend : Ev (fun k => f k n) true)
    (hyes : ∀ i r, i < n → P i = true → Ev (fun k => f k (i + 1)) r → Ev (fun k => f k i) r) (hno : ∀ i, i < n → P i = false → Ev (fun k => f k i) false) : ∀ i, i ≤ n → Ev (fun k => f k i) (allR P n i) :=
  Ev.loop (val := allR P n) n (by rw [wC]; exact hend) fun i hi H => by
    rw [tX P hi]
    cases h : P i with
    | true => exact hyes i _ hi h H
    | false => exact hno i hi h
theorem Ev.OM {f : Nat → Nat → Option Bool} {P : Nat → Bool} (n : Nat) (hend : Ev (fun k => f k n) false)
    (hno : ∀ i r, i < n → P i = false → Ev (fun k => f k (i + 1)) r → Ev (fun k => f k i) r) (hyes : ∀ i, i < n → P i = true → Ev (fun k => f k i) true) : ∀ i, i ≤ n → Ev (fun k => f k i) (anyR P n i) :=
  Ev.loop (val := anyR P n) n (by rw [X5]; exact hend) fun i hi H => by
    rw [RY P hi]
    cases h : P i with
    | false => exact hno i _ hi h H
    | true => exact hyes i hi h
theorem LQ {α : Type} (p : α → Bool) (z : α) (l : List α) : anyR (fun j => p (l.getD j z)) l.length 0 = l.any p := by
 rw [Bool.eq_iff_iff, P7, List.any_eq_true]
 constructor
 ·rintro ⟨j, _, h, hp⟩; exact ⟨l.getD j z, by rw [List.getD_eq_getElem?_getD, List.getElem?_eq_getElem h]; exact List.getElem_mem h, hp⟩
 rintro ⟨x, hx, hp⟩; obtain ⟨j, h, rfl⟩ := List.getElem_of_mem hx; exact ⟨j, by omega, h, by rw [List.getD_eq_getElem?_getD, List.getElem?_eq_getElem h]; exact hp⟩
theorem Hg {α : Type} (d : α) (l : List α) (i : Nat) : rdOf d l (i : Int) = l.getD i d := by
 unfold rdOf; rw [Int.toNat_natCast]
theorem jB {i n : Nat} (h : i < n) (hn : n ≤ 9223372036854775807) : wrap64 ((i : Int) + 1) = ((i + 1 : Nat) : Int) := by
 unfold wrap64; omega
theorem TA {i : Nat} (h : 0 < i) (hn : i ≤ 9223372036854775807) : wrap64 ((i : Int) - 1) = ((i - 1 : Nat) : Int) := by
 unfold wrap64; omega
theorem toList_inj {a b : ByteArray} : a.toList = b.toList ↔ a = b := by
 constructor
 ·intro h
  rw [ByteArray.toList_eq, ByteArray.toList_eq] at h
  cases a; cases b
  simpa using h
 intro h; rw [h]
def gS (l : List ByteArray) (i : Nat) : ByteArray := l.getD i ByteArray.empty
def ltB (a b : ByteArray) : Bool := Op.bytesLess a.toList b.toList
theorem lY (l : List ByteArray) (i : Nat) : rdOf ByteArray.empty l (i : Int) = gS l i := Hg _ _ _
def F3 (l all : List ByteArray) (j : Nat) : Bool := hasS all (gS l j) && (decide (j = 0) || ltB (gS l (j - 1)) (gS l j))
def wK (l all : List ByteArray) : Bool := allR (F3 l all) l.length 0
def wO (a b : List ByteArray) : Bool := a.any (hasS b)
def F8 (l : List ByteArray) (j : Nat) : Bool := yT (gS l j) && (decide (j = 0) || ltB (gS l (j - 1)) (gS l j))
def L6 (l : List ByteArray) : Bool := decide (l.length ≤ 8) && allR (F8 l) l.length 0
theorem DC {α : Type} {l : List ByteArray} {i : Nat} (hi : i < l.length) (hl : l.length ≤ 9223372036854775807) {a b : Nat → Option α} {r : α}
  (H1 : (decide (i = 0) || ltB (gS l (i - 1)) (gS l i)) = true → Ev a r) (H2 : (decide (i = 0) || ltB (gS l (i - 1)) (gS l i)) = false → Ev b r) :
  Ev (fun k => if (i : Int) > 0 then (if 0 ≤ (wrap64 ((i : Int) - 1)) then (if (wrap64 ((i : Int) - 1)) < (l.length : Int) then (if ((Op.bytesLess ((rdOf ByteArray.empty l (wrap64 ((i : Int) - 1))).toList) ((rdOf ByteArray.empty l (i : Int)).toList)) = true) then a k else b k) else none) else none) else a k) r := by
 by_cases h0 : i = 0
 ·exact Ev.neg (by omega) (H1 (by simp [h0]))
 rw [TA (by omega) (by omega), lY, lY]
 refine Ev.pos (by omega) (Ev.pos (by omega) (Ev.pos (by omega) (Ev.test _ (fun h => H1 ?_) (fun h => H2 ?_))))
 ·simp only [ltB, h, Bool.or_true]
 simp only [ltB, h, h0, decide_false, Bool.or_false]
theorem WG (n low high : Int) : vQ.f n low high = some (decide (low ≤ n) && decide (n ≤ high)) := by
 unfold vQ.f
 by_cases h : n ≥ low
 ·rw [if_pos h, show decide (low ≤ n) = true from decide_eq_true h]; rfl
 rw [if_neg h, show decide (low ≤ n) = false from decide_eq_false h]; rfl
theorem uB (s : ByteArray) : Ev (fun k => d9.f k s) (yT s) := by
 unfold d9.f
 simp only [WG, Option.bind_some]
 refine Ev.test _ (fun h => ?_) (fun h => ?_)
 ·simp only [Bool.and_eq_true, decide_eq_true_eq] at h
  have E := Ev.OL (f := fun k i => d9.l0 k s (i : Int)) (P := fun j => okc (bt s (j : Int))) s.size
    (by refine Ev.step (fun k => d9.l0.eq_2 s _ k) ?_
        exact Ev.neg (by omega) (Ev.ret rfl))
    (fun i r hi hp H => by
      refine Ev.step (fun k => d9.l0.eq_2 s _ k) ?_
      refine Ev.pos (by omega) (Ev.pos (by omega) ?_)
      simp only [VT]
      rw [jB hi (by omega)]
      exact Ev.pos hp H)
    (fun i hi hp => by
      refine Ev.step (fun k => d9.l0.eq_2 s _ k) ?_
      refine Ev.pos (by omega) (Ev.pos (by omega) ?_)
      simp only [VT]
      exact Ev.neg (by simp [hp]) (Ev.ret rfl)) 0 (by omega)
  refine Ev.sub E ?_
  unfold yT allR
  rw [show decide (1 ≤ s.size) = true from decide_eq_true (by omega), show decide (s.size ≤ 8) = true from decide_eq_true (by omega)]
  rfl
 refine Ev.ret ?_
 unfold yT
 by_cases h1 : 1 ≤ s.size
 ·by_cases h2 : s.size ≤ 8
  ·have : (decide ((1 : Int) ≤ (s.size : Int)) && decide ((s.size : Int) ≤ 8)) = true := by simp; omega
   rw [this] at h; cases h
  simp [h2]
 simp [h1]
theorem nP (l : List ByteArray) (s : ByteArray) (hl : l.length ≤ 9223372036854775807) : Ev (fun k => dK.f k l s) (hasS l s) := by
 unfold dK.f
 have E := Ev.OM (f := fun k i => dK.l0 k l s (i : Int)) (P := fun j => (fun x : ByteArray => s.toList == x.toList) (l.getD j ByteArray.empty)) l.length
   (by refine Ev.step (fun k => dK.l0.eq_2 l s _ k) ?_
       exact Ev.neg (by omega) (Ev.ret rfl))
   (fun i r hi hp H => by
     refine Ev.step (fun k => dK.l0.eq_2 l s _ k) ?_
     refine Ev.pos (by omega) (Ev.pos (by omega) ?_)
     rw [jB hi hl, lY]
     exact Ev.neg (fun e => by simp [← e, gS] at hp) H)
   (fun i hi hp => by
     refine Ev.step (fun k => dK.l0.eq_2 l s _ k) ?_
     refine Ev.pos (by omega) (Ev.pos (by omega) ?_)
     rw [lY]
     exact Ev.pos (beq_iff_eq.mp (show (s.toList == (gS l i).toList) = true from hp)).symm (Ev.ret rfl)) 0 (by omega)
 exact Ev.sub E (LQ (fun x : ByteArray => s.toList == x.toList) ByteArray.empty l)
theorem xV (l : List ByteArray) (s : ByteArray) (hl : l.length ≤ 9223372036854775807) : Ev (fun k => bA.f k l s) (hasS l s) :=
  Ev.of (bA.mono l s) (MZ l s hl)
theorem Tc (s : ByteArray) : Ev (fun k => dX.f k s) (yT s) := Ev.of (dX.mono s) (Fg s)
theorem qA (l all : List ByteArray) (hl : l.length ≤ 9223372036854775807) (ha : all.length ≤ 9223372036854775807) : Ev (fun k => dC.f k l all) (wK l all) := by
 unfold dC.f
 refine Ev.OL (f := fun k i => dC.l0 k l all (i : Int)) (P := F3 l all) l.length
   (by refine Ev.step (fun k => dC.l0.eq_2 l all _ k) ?_
       exact Ev.neg (by omega) (Ev.ret rfl))
   (fun i r hi hp H => by
     simp only [F3, Bool.and_eq_true] at hp
     refine Ev.step (fun k => dC.l0.eq_2 l all _ k) ?_
     refine Ev.pos (by omega) (Ev.pos (by omega) (Ev.bind (nP all _ ha) ?_))
     rw [lY, hp.1]
     refine Ev.pos rfl (DC hi hl (fun _ => ?_) (fun h => by rw [hp.2] at h; cases h))
     rw [jB hi hl]
     exact H)
   (fun i hi hp => by
     refine Ev.step (fun k => dC.l0.eq_2 l all _ k) ?_
     refine Ev.pos (by omega) (Ev.pos (by omega) (Ev.bind (nP all _ ha) ?_))
     rw [lY]
     refine Ev.test _ (fun h1 => DC hi hl (fun h2 => ?_) (fun h => Ev.ret rfl)) (fun _ => Ev.ret rfl)
     simp only [F3, h1, h2, Bool.and_true] at hp
     cases hp) 0 (by omega)
theorem J9 (l all : List ByteArray) (hl : l.length ≤ 9223372036854775807) (ha : all.length ≤ 9223372036854775807) : Ev (fun k => jA.f k l all) (wK l all) := by
 unfold jA.f
 refine Ev.OL (f := fun k i => jA.l0 k l all l (l.length : Int) (i : Int)) (P := F3 l all) l.length
   (by refine Ev.step (fun k => jA.l0.eq_2 l all l _ _ k) ?_
       exact Ev.neg (by omega) (Ev.ret rfl))
   (fun i r hi hp H => by
     simp only [F3, Bool.and_eq_true] at hp
     refine Ev.step (fun k => jA.l0.eq_2 l all l _ _ k) ?_
     refine Ev.pos (by omega) (Ev.pos (by omega) (Ev.pos (by omega) (Ev.bind (xV all _ ha) ?_)))
     rw [lY, hp.1]
     refine Ev.pos rfl (DC hi hl (fun _ => ?_) (fun h => by rw [hp.2] at h; cases h))
     rw [jB hi hl]
     exact H)
   (fun i hi hp => by
     refine Ev.step (fun k => jA.l0.eq_2 l all l _ _ k) ?_
     refine Ev.pos (by omega) (Ev.pos (by omega) (Ev.pos (by omega) (Ev.bind (xV all _ ha) ?_)))
     rw [lY]
     refine Ev.test _ (fun h1 => DC hi hl (fun h2 => ?_) (fun h => Ev.ret rfl)) (fun _ => Ev.ret rfl)
     simp only [F3, h1, h2, Bool.and_true] at hp
     cases hp) 0 (by omega)
theorem JH (l : List ByteArray) : Ev (fun k => fH.f k l) (L6 l) := by
 unfold fH.f L6
 refine Ev.prop (fun h => Ev.ret (by rw [show decide (l.length ≤ 8) = false from decide_eq_false (by omega)]; rfl)) (fun h => ?_)
 rw [show decide (l.length ≤ 8) = true from decide_eq_true (by omega), Bool.true_and]
 have hl : l.length ≤ 9223372036854775807 := by omega
 refine Ev.OL (f := fun k i => fH.l0 k l (i : Int)) (P := F8 l) l.length
   (by refine Ev.step (fun k => fH.l0.eq_2 l _ k) ?_
       exact Ev.neg (by omega) (Ev.ret rfl))
   (fun i r hi hp H => by
     simp only [F8, Bool.and_eq_true] at hp
     refine Ev.step (fun k => fH.l0.eq_2 l _ k) ?_
     refine Ev.pos (by omega) (Ev.pos (by omega) (Ev.bind (uB _) ?_))
     rw [lY, hp.1]
     refine Ev.pos rfl (DC hi hl (fun _ => ?_) (fun h => by rw [hp.2] at h; cases h))
     rw [jB hi hl]
     exact H)
   (fun i hi hp => by
     refine Ev.step (fun k => fH.l0.eq_2 l _ k) ?_
     refine Ev.pos (by omega) (Ev.pos (by omega) (Ev.bind (uB _) ?_))
     rw [lY]
     refine Ev.test _ (fun h1 => DC hi hl (fun h2 => ?_) (fun h => Ev.ret rfl)) (fun _ => Ev.ret rfl)
     simp only [F8, h1, h2, Bool.and_true] at hp
     cases hp) 0 (by omega)
theorem yH (a b : List ByteArray) (ha : a.length ≤ 9223372036854775807) (hb : b.length ≤ 9223372036854775807) : Ev (fun k => eX.f k a b) (wO a b) := by
 unfold eX.f
 have E := Ev.OM (f := fun k i => eX.l0 k a b (i : Int)) (P := fun j => hasS b (a.getD j ByteArray.empty)) a.length
   (by refine Ev.step (fun k => eX.l0.eq_2 a b _ k) ?_
       exact Ev.neg (by omega) (Ev.ret rfl))
   (fun i r hi hp H => by
     refine Ev.step (fun k => eX.l0.eq_2 a b _ k) ?_
     refine Ev.pos (by omega) (Ev.pos (by omega) (Ev.bind (nP b _ hb) ?_))
     rw [lY, jB hi ha]
     exact Ev.neg (by rw [show hasS b (gS a i) = false from hp]; simp) H)
   (fun i hi hp => by
     refine Ev.step (fun k => eX.l0.eq_2 a b _ k) ?_
     refine Ev.pos (by omega) (Ev.pos (by omega) (Ev.bind (nP b _ hb) ?_))
     rw [lY]
     exact Ev.pos hp (Ev.ret rfl)) 0 (by omega)
 exact Ev.sub E (LQ (hasS b) ByteArray.empty a)
def Bok (bs : List IB) : Prop := ∀ b ∈ bs, b.f1.length ≤ 9223372036854775807 ∧ b.f2.length ≤ 9223372036854775807
theorem Bok.at_ {bs : List IB} (h : Bok bs) {i : Nat} (hi : i < bs.length) : (gB bs i).f1.length ≤ 9223372036854775807 ∧ (gB bs i).f2.length ≤ 9223372036854775807 := by
 rw [show gB bs i = bs[i] from getD_lt bs _ hi]; exact h _ (List.getElem_mem hi)
def wD (ts : List ByteArray) (bs : List IB) (i : Nat) : Bool :=
  yT (gB bs i).f0 && ((decide (i = 0) || ltB (gB bs (i - 1)).f0 (gB bs i).f0) && (wK (gB bs i).f2 ts && wK (gB bs i).f1 (gB bs i).f2))
def AO (bs : List IB) (i : Nat) : Bool := allR (fun q => !wO (gB bs i).f1 (gB bs q).f1) i 0
def uO (ts : List ByteArray) (bs : List IB) : Bool := L6 ts && (decide (bs.length ≤ 5) && allR (fun i => wD ts bs i && AO bs i) bs.length 0)
theorem RX {α : Type} {bs : List IB} {i : Nat} (hi : i < bs.length) (hl : bs.length ≤ 9223372036854775807) {a b : Nat → Option α} {r s : α} (H1 : Ev a r) (H2 : Ev b s) :
  Ev (fun k => if (i : Int) > 0 then (if 0 ≤ (wrap64 ((i : Int) - 1)) then (if (wrap64 ((i : Int) - 1)) < (bs.length : Int) then (if ((Op.bytesLess (((aC bs (wrap64 ((i : Int) - 1))).f0).toList) (((aC bs (i : Int)).f0).toList)) = true) then a k else b k) else none) else none) else a k)
   (if (decide (i = 0) || ltB (gB bs (i - 1)).f0 (gB bs i).f0) = true then r else s) := by
 by_cases h0 : i = 0
 ·rw [if_pos (by simp [h0])]; exact Ev.neg (by omega) H1
 rw [TA (by omega) (by omega), jI, jI, show (decide (i = 0) || ltB (gB bs (i - 1)).f0 (gB bs i).f0) = ltB (gB bs (i - 1)).f0 (gB bs i).f0 from by simp [h0]]
 refine Ev.pos (by omega) (Ev.pos (by omega) (Ev.pos (by omega) (Ev.test _ (fun h => ?_) (fun h => ?_))))
 ·rw [if_pos (show ltB (gB bs (i - 1)).f0 (gB bs i).f0 = true from h)]; exact H1
 rw [if_neg (by rw [show ltB (gB bs (i - 1)).f0 (gB bs i).f0 = false from h]; simp)]; exact H2
theorem kG (ts : List ByteArray) (bs : List IB) (ht : ts.length ≤ 9223372036854775807) (hl : bs.length ≤ 9223372036854775807) (hb : Bok bs) : Ev (fun k => aH.f k ts bs) (uO ts bs) := by
 unfold aH.f uO
 have loop : Ev (fun k => aH.l0 k ((0 : Nat) : Int) ts bs) (allR (fun i => wD ts bs i && AO bs i) bs.length 0) := by
   refine Ev.loop (f := fun k i => aH.l0 k (i : Int) ts bs) (val := allR (fun i => wD ts bs i && AO bs i) bs.length) bs.length ?_ ?_ 0 (by omega)
   · rw [wC]
     refine Ev.step (fun k => aH.l0.eq_2 _ ts bs k) ?_
     exact Ev.neg (by omega) (Ev.ret rfl)
   · intro i hi H
     rw [tX _ hi]
     generalize allR (fun i => wD ts bs i && AO bs i) bs.length (i + 1) = r at H
     obtain ⟨b1, b2⟩ := hb.at_ hi
     have inner : Ev (fun k => aH.l1 k (i : Int) ((0 : Nat) : Int) ts bs (gB bs i).f0 (gB bs i).f1 (gB bs i).f2) (AO bs i && r) := by
       refine Ev.loop (f := fun k j => aH.l1 k (i : Int) (j : Int) ts bs (gB bs i).f0 (gB bs i).f1 (gB bs i).f2) (val := fun j => allR (fun q => !wO (gB bs i).f1 (gB bs q).f1) i j && r) i ?_ ?_ 0 (by omega)
       · simp only [wC, Bool.true_and]
         refine Ev.step (fun k => aH.l1.eq_2 _ _ ts bs _ _ _ k) ?_
         refine Ev.neg (by omega) ?_
         rw [jB hi hl]; exact H
       · intro j hj H2
         simp only [tX (fun q => !wO (gB bs i).f1 (gB bs q).f1) hj]
         refine Ev.step (fun k => aH.l1.eq_2 _ _ ts bs _ _ _ k) ?_
         refine Ev.pos (by omega) (Ev.pos (by omega) (Ev.pos (by omega) ?_))
         rw [jI, jB hj (by omega)]
         refine Ev.bind (yH _ _ b1 (hb.at_ (show j < bs.length by omega)).1) ?_
         refine Ev.test _ (fun h => Ev.ret (by rw [h]; rfl)) (fun h => Ev.sub H2 (by rw [h]; rfl))
     have j2 : ∀ b, Ev (fun k => aH.j2 k (i : Int) b ts bs (gB bs i).f0 (gB bs i).f1 (gB bs i).f2) (!b && (AO bs i && r)) := by
       intro b
       refine Ev.step (fun k => aH.j2.eq_2 _ _ ts bs _ _ _ k) ?_
       refine Ev.test _ (fun h => Ev.ret (by rw [h]; rfl)) (fun h => Ev.sub inner (by rw [h]; rfl))
     have X : Ev (fun k => (dC.f k (gB bs i).f2 ts).bind fun t => if t = true then ((dC.f k (gB bs i).f1 (gB bs i).f2).bind fun t2 => aH.j2 k (i : Int) (!t2) ts bs (gB bs i).f0 (gB bs i).f1 (gB bs i).f2) else aH.j2 k (i : Int) true ts bs (gB bs i).f0 (gB bs i).f1 (gB bs i).f2)
         (wK (gB bs i).f2 ts && wK (gB bs i).f1 (gB bs i).f2 && (AO bs i && r)) := by
       refine Ev.bind (qA _ _ b2 ht) ?_
       refine Ev.test _ (fun h => Ev.bind (qA _ _ b1 b2) (Ev.sub (j2 _) (by rw [h]; simp))) (fun h => Ev.sub (j2 _) (by rw [h]; simp))
     refine Ev.step (fun k => aH.l0.eq_2 _ ts bs k) ?_
     refine Ev.pos (by omega) (Ev.pos (by omega) (Ev.bind (uB _) ?_))
     have A := RX hi hl X (j2 true)
     rw [jI] at *
     refine Ev.test _ (fun h => Ev.sub A ?_) (fun h => Ev.sub (j2 true) ?_)
     · simp only [wD, h, Bool.true_and]
       cases (decide (i = 0) || ltB (gB bs (i - 1)).f0 (gB bs i).f0) <;> simp [Bool.and_assoc]
     · simp [wD, h]
 have j0 : ∀ b, Ev (fun k => aH.j0 k b ts bs) (!b && allR (fun i => wD ts bs i && AO bs i) bs.length 0) := by
   intro b
   refine Ev.step (fun k => aH.j0.eq_2 _ ts bs k) ?_
   refine Ev.test _ (fun h => Ev.ret (by rw [h]; rfl)) (fun h => Ev.sub loop (by rw [h]; rfl))
 refine Ev.bind (JH ts) ?_
 refine Ev.test _ (fun h => Ev.sub (j0 _) ?_) (fun h => Ev.sub (j0 _) (by rw [h]; simp))
 rw [h, show (!decide ((bs.length : Int) > 5)) = decide (bs.length ≤ 5) from by rw [Bool.eq_iff_iff]; simp; omega]
 rfl
theorem Bl (ts : List ByteArray) : (decide (ts.length ≤ 8) && (wK ts ts && !(ts.any fun s => !yT s))) = L6 ts := by
 unfold L6
 congr 1
 rw [Bool.eq_iff_iff, Bool.and_eq_true, wK, AA, AA]
 have hany : ((!(ts.any fun s => !yT s)) = true) ↔ ∀ s ∈ ts, yT s = true := by simp
 rw [hany]
 constructor
 ·rintro ⟨h1, h2⟩ j h0 hj
  have := h1 j h0 hj
  simp only [F3, Bool.and_eq_true] at this
  simp only [F8, Bool.and_eq_true]
  exact ⟨h2 _ (by rw [show gS ts j = ts[j] from getD_lt ts _ hj]; exact List.getElem_mem hj), this.2⟩
 intro h
 refine ⟨fun j h0 hj => ?_, fun s hs => ?_⟩
 ·have := h j h0 hj
  simp only [F8, Bool.and_eq_true] at this
  simp only [F3, Bool.and_eq_true]
  refine ⟨?_, this.2⟩
  unfold hasS
  rw [List.any_eq_true]
  exact ⟨gS ts j, by rw [show gS ts j = ts[j] from getD_lt ts _ hj]; exact List.getElem_mem hj, by simp⟩
 obtain ⟨j, hj, rfl⟩ := List.getElem_of_mem hs
 have := h j (by omega) hj
 simp only [F8, Bool.and_eq_true] at this
 rw [← show gS ts j = ts[j] from getD_lt ts _ hj]
 exact this.1
theorem uJ (ts : List ByteArray) (bs : List IB) (ht : ts.length ≤ 9223372036854775807) (hl : bs.length ≤ 9223372036854775807) (hb : Bok bs) : Ev (fun k => aN.f k ts bs) (uO ts bs) := by
 unfold aN.f uO
 have loop : Ev (fun k => aN.l0 k bs (bs.length : Int) ((0 : Nat) : Int) ts bs) (allR (fun i => wD ts bs i && AO bs i) bs.length 0) := by
   refine Ev.loop (f := fun k i => aN.l0 k bs (bs.length : Int) (i : Int) ts bs) (val := allR (fun i => wD ts bs i && AO bs i) bs.length) bs.length ?_ ?_ 0 (by omega)
   · rw [wC]
     refine Ev.step (fun k => aN.l0.eq_2 bs _ _ ts bs k) ?_
     exact Ev.neg (by omega) (Ev.ret rfl)
   · intro i hi H
     rw [tX _ hi]
     generalize allR (fun i => wD ts bs i && AO bs i) bs.length (i + 1) = r at H
     obtain ⟨b1, b2⟩ := hb.at_ hi
     have inner : Ev (fun k => aN.l1 k bs (bs.length : Int) (i : Int) (bs.take i) ((bs.take i).length : Int) ((0 : Nat) : Int) ts bs (gB bs i).f0 (gB bs i).f1 (gB bs i).f2) (AO bs i && r) := by
       have hlen : (bs.take i).length = i := by rw [List.length_take]; omega
       refine Ev.loop (f := fun k j => aN.l1 k bs (bs.length : Int) (i : Int) (bs.take i) ((bs.take i).length : Int) (j : Int) ts bs (gB bs i).f0 (gB bs i).f1 (gB bs i).f2) (val := fun j => allR (fun q => !wO (gB bs i).f1 (gB bs q).f1) i j && r) i ?_ ?_ 0 (by omega)
       · simp only [wC, Bool.true_and]
         refine Ev.step (fun k => aN.l1.eq_2 _ _ _ _ _ _ ts bs _ _ _ k) ?_
         refine Ev.neg (by rw [hlen]; omega) ?_
         rw [jB hi hl]; exact H
       · intro j hj H2
         simp only [tX (fun q => !wO (gB bs i).f1 (gB bs q).f1) hj]
         refine Ev.step (fun k => aN.l1.eq_2 _ _ _ _ _ _ ts bs _ _ _ k) ?_
         refine Ev.pos (by rw [hlen]; omega) (Ev.pos (by omega) (Ev.pos (by rw [hlen]; omega) ?_))
         rw [jI, jB hj (by omega), show gB (bs.take i) j = gB bs j from by unfold gB; rw [List.getD_eq_getElem?_getD, List.getElem?_take_of_lt hj, List.getD_eq_getElem?_getD]]
         simp only [oJ.f, Option.bind_some]
         refine Ev.test _ (fun h => Ev.ret (by rw [show wO (gB bs i).f1 (gB bs j).f1 = true from h]; rfl)) (fun h => Ev.sub H2 (by rw [show wO (gB bs i).f1 (gB bs j).f1 = false from h]; rfl))
     have j2 : ∀ b, Ev (fun k => aN.j2 k (i : Int) bs (bs.length : Int) (i : Int) b ts bs (gB bs i).f0 (gB bs i).f1 (gB bs i).f2) (!b && (AO bs i && r)) := by
       intro b
       refine Ev.step (fun k => aN.j2.eq_2 _ _ _ _ _ ts bs _ _ _ k) ?_
       refine Ev.test _ (fun h => Ev.ret (by rw [h]; rfl)) (fun h => Ev.pos (by omega) (Ev.pos (by omega) ?_))
       rw [Int.toNat_natCast]
       simp only [Option.bind_some]
       exact Ev.sub inner (by rw [h]; rfl)
     have X : Ev (fun k => (jA.f k (gB bs i).f2 ts).bind fun t => if t = true then ((jA.f k (gB bs i).f1 (gB bs i).f2).bind fun t2 => aN.j2 k (i : Int) bs (bs.length : Int) (i : Int) (!t2) ts bs (gB bs i).f0 (gB bs i).f1 (gB bs i).f2) else aN.j2 k (i : Int) bs (bs.length : Int) (i : Int) true ts bs (gB bs i).f0 (gB bs i).f1 (gB bs i).f2)
         (wK (gB bs i).f2 ts && wK (gB bs i).f1 (gB bs i).f2 && (AO bs i && r)) := by
       refine Ev.bind (J9 _ _ b2 ht) ?_
       refine Ev.test _ (fun h => Ev.bind (J9 _ _ b1 b2) (Ev.sub (j2 _) (by rw [h]; simp))) (fun h => Ev.sub (j2 _) (by rw [h]; simp))
     refine Ev.step (fun k => aN.l0.eq_2 _ _ _ ts bs k) ?_
     refine Ev.pos (by omega) (Ev.pos (by omega) (Ev.pos (by omega) (Ev.bind (Tc _) ?_)))
     have A := RX hi hl X (j2 true)
     rw [jI] at *
     refine Ev.test _ (fun h => Ev.sub A ?_) (fun h => Ev.sub (j2 true) ?_)
     · simp only [wD, h, Bool.true_and]
       cases (decide (i = 0) || ltB (gB bs (i - 1)).f0 (gB bs i).f0) <;> simp [Bool.and_assoc]
     · simp [wD, h]
 have j0 : ∀ b, Ev (fun k => aN.j0 k b ts bs) (!b && allR (fun i => wD ts bs i && AO bs i) bs.length 0) := by
   intro b
   refine Ev.step (fun k => aN.j0.eq_2 _ ts bs k) ?_
   refine Ev.test _ (fun h => Ev.ret (by rw [h]; rfl)) (fun h => Ev.sub loop (by rw [h]; rfl))
 rw [← Bl]
 refine Ev.prop (fun h => Ev.sub (j0 _) ?_) (fun h => Ev.prop (fun h2 => Ev.sub (j0 _) ?_) (fun h2 => Ev.bind (J9 ts ts ht ht) ?_))
 ·rw [show decide (ts.length ≤ 8) = false from decide_eq_false (by omega)]; rfl
 ·rw [show decide (bs.length ≤ 5) = false from decide_eq_false (by omega)]; simp
 rw [show decide (bs.length ≤ 5) = true from decide_eq_true (by omega), show decide (ts.length ≤ 8) = true from decide_eq_true (by omega)]
 simp only [iU.f, Option.bind_some]
 refine Ev.test _ (fun h => Ev.sub (j0 _) (by rw [h]; simp)) (fun h => Ev.sub (j0 _) (by rw [h]; simp))
def bO.l0 : Nat → Int → List ByteArray → List (S56) → Int → Int → List ByteArray → List (S56) → Option (Bool)
 | 0, _, _, _, _, _, _, _ => none
 | k + 1, b, e, c, g, a, h, d => if a < g then (if 0 ≤ a then (if a < (c.length : Int) then (if a = b then (bO.l0 k b e c g (wrap64 (a + 1)) h d) else ((bA.f k e ((aC c a).f0)).bind fun i => (if i = true then (bO.l0 k b e c g (wrap64 (a + 1)) h d) else (if 0 ≤ b then (if b < (d.length : Int) then ((oJ.f ((aC c a).f1) ((aC d b).f2)).bind fun j => (if j = true then (some false) else (bO.l0 k b e c g (wrap64 (a + 1)) h d))) else (none)) else (none))))) else (none)) else (none)) else (some true)
def bO.f (k : Nat) (aY : List ByteArray) (aI : List (S56)) (a1 : Int) (l2 : List ByteArray) : Option (Bool) := bO.l0 k a1 l2 aI (aI.length : Int) 0 aY aI
def bO.T4 : Bool × List (List Nat × List Nat) := (true, [([], []), ([], []), ([0, 1], [0, 1]), ([2], [2]), ([3], [3]), ([3], [3]), ([5, 3], [3, 5]), ([4, 6, 3, 3], [3, 4, 6]), ([7, 3], [3, 7]), ([3, 8], [3, 8]), ([9, 7], [9]), ([10], [10]), ([11, 10], [10, 11]), ([10], [10]), ([13, 10], [10, 13]), ([10], [10]), ([14, 15, 10], [10, 14, 15]), ([16, 10], [10, 16]), ([17, 10], [10, 17]), ([12, 18, 10, 10], [10, 12, 18]), ([10, 19], [10, 19])])
def bO.B4 : List Nat := [0, 0, 3, 7, 15, 15, 47, 127, 255, 511, 1023, 2047, 4095, 2047, 10239, 2047, 59391, 124927, 255999, 524287, 1048575]
theorem bO.tab4 : rtab .any (opsOf Try.f85 4) = bO.T4 := by kernel_rfl
theorem bO.Dp : kM bO.T4.2 bO.B4 = true := by kernel_rfl
theorem bO.calls (k : Nat) (eL : Option Addr) (eO : Nat) (aY : List ByteArray) (fJ : Option Addr) (eJ : Nat) (aI : List (S56)) (a1 : Int) (A2 : Option Addr) (c2 : Nat) (l2 : List ByteArray) (r : Bool) (w : World) (iQ : Kd.C Kd.string w eL aY.length aY) (iO : aY.length ≤ eO) (iH : Kd.C k56 w fJ aI.length aI) (iP : aI.length ≤ eJ) (XW : Kd.C Kd.string w A2 l2.length l2) (XP : l2.length ≤ c2) (h : bO.f k aY aI a1 l2 = some r) :
  Calls Try.prog 85 #[.agg #[.slice eL aY.length eO, .slice fJ aI.length eJ], .int .i64 a1, .slice A2 l2.length c2] w fun e w' => e = .returned (.bool r) ∧ Below w.heap.size w w' := by
 have hu31 := Try.underlying31
 have hu56 := Try.underlying56
 obtain ⟨eQ, eP⟩ := mZ2 iQ iO
 obtain ⟨dO, fP⟩ := mZ2 iH iP
 obtain ⟨IX, D0⟩ := mZ2 XW XP
 clear iQ iO iH iP XW XP
 have HB := am (Below.refl w.heap.size w)
 unfold bO.f at h
 have H := h
 clear h
 have H' := am H
 repeat clear H
 go_enter Try.func85, Try.ntmps85
 go_wp2_with (first | ((with_reducible refine gD 3 ?_); refine bX 3 #[.slice eL aY.length eO, .slice fJ aI.length eJ] 31 ?_; intro aJ hg w4 hbox hb; have a3 := am hbox; have gH := am (u0 : w.heap.size ≤ aJ); have iE := gH; replace HB := bS eI hb; clear hb hbox hg; have Z5 := cz2 a3))
 go_loopg [12] k (fun kq v12 w' => ∃ (oU : Int), v12 = .int .i64 oU ∧ aA (bO.l0 kq a1 l2 aI (aI.length : Int) oU aY aI = some r) ∧ aA (kq ≤ k) ∧ aA (w'.heap[aJ]? = some (.cells #[(.slice eL aY.length eO), (.slice fJ aI.length eJ)] 31 (0, 0))) ∧ aA (Below w.heap.size w w'))
 case atStart => exact ⟨(0), dH, H', ⟨Nat.le_refl _⟩, ⟨rB a3.1⟩, ⟨dS⟩⟩
 clear H'
 try clear c2
 try clear Z5
 obtain ⟨oU, rfl, HA, HK1, a3, HB⟩ := hrel
 cases gk with
 | zero => exact absurd HA.out (by simp [bO.l0])
 | succ k1 =>
  have H := HA.out
  clear HA
  simp only [bO.l0] at H
  refine ic H ?_ ?_ <;> clear H <;> intro PK H
  obtain ⟨UB, H⟩ := cN H
  obtain ⟨HY, H⟩ := cN H
  refine iq H ?_ ?_ <;> clear H <;> intro c9 LY Lh H
  have H' := am H
  repeat clear H
  obtain ⟨oC, sU, sX, sV, sY, sG, o2, oY, oZ, pS, pN, tP, tM, CV, CY⟩ := aT56 dO HB oU
  cases sG
  have Jj := trivial
  rotate_left
  obtain ⟨dI, YV, H⟩ := bd H
  refine tC H ?_ ?_ <;> clear H <;> intro U9 H <;> subst U9
  have H' := am H
  repeat clear H
  obtain ⟨oC, sU, sX, sV, sY, sG, o2, oY, oZ, pS, pN, tP, tM, CV, CY⟩ := aT56 dO HB oU
  cases sG
  have Jj := trivial
  rotate_left
  obtain ⟨Vw, H⟩ := cN H
  obtain ⟨PI, H⟩ := cN H
  obtain ⟨fO, xf, H⟩ := bd H
  refine tC H ?_ ?_ <;> clear H <;> intro Vx H <;> subst Vx
  obtain rfl := Option.some.inj H
  repeat clear H
  obtain ⟨oC, sU, sX, sV, sY, sG, o2, oY, oZ, pS, pN, tP, tM, CV, CY⟩ := aT56 dO HB oU
  cases sG
  have Jj := trivial
  rotate_left
  have H' := am H
  repeat clear H
  obtain ⟨oC, sU, sX, sV, sY, sG, o2, oY, oZ, pS, pN, tP, tM, CV, CY⟩ := aT56 dO HB oU
  cases sG
  have Jj := trivial
  rotate_left
  obtain rfl := Option.some.inj H
  repeat clear H
  rotate_left
  all_goals
   try go_wp2_with (first | ((with_reducible refine gD 8 ?_); revert Jj; intro Jj; refine bX 8 #[.string (⟨#[]⟩ : ByteArray), .slice none 0 0, .slice none 0 0] 56 ?_; intro sL hg Fr hbox hb; have jV := am hbox; have WU := am (GG : w.heap.size ≤ sL); have I4 := WU; replace HB := bS dS hb; have x5 := nL aQ hg; have qM := nG aQ hg; replace a3 := bB aQ hb; clear hb hbox hg; have aCA := nZ1 qM x5; have aCB := cz3 jV))
  ·obtain ⟨Pt, eW_⟩ := eW3 Fr sL (.string ((aC aI oU).f0)) (.slice sU ((aC aI oU).f1).length sX) (.slice sV ((aC aI oU).f2).length sY)
   rw [← eW_]
   replace a3 := uF3 eW_ a3 x5
   replace jV := uP3 eW_ jV
   replace HB := uC3 eW_ HB I4
   clear eW_
   replace a3 := BD a3
   replace jV := BD jV
   replace HB := am (aV HB.1)
   refine sT (S := fun w' => True) [] 21 ⟨trivial⟩ (fun hHeld => ?_)
   refine dZ bO.tab4 bO.Dp (fun HT_ HW_ => ?_)
   generalize Pt.drew = wn at a3 jV HB hHeld ⊢
   refine pU4 0 1 2 3 ?_
   refine pV5 4 5 6 7 8 ?_
   refine pU2 9 10 ?_
   refine pV8 11 12 13 14 15 16 17 18 ?_
   refine pV1 19 ?_
   refine pU1 20 ?_
   refine dN ?_
   try go_wp2
   go_roundg k1
   case measure => have := HK1.out; omega
   case rel => exact ⟨(wrap64 (oU + 1)), dH, H', ⟨by have := HK1.out; omega⟩, ⟨rB a3.1⟩, ⟨QT⟩⟩
  ·obtain ⟨Hw, eW_⟩ := eW3 Fr sL (.string ((aC aI oU).f0)) (.slice sU ((aC aI oU).f1).length sX) (.slice sV ((aC aI oU).f2).length sY)
   rw [← eW_]
   replace a3 := uF3 eW_ a3 x5
   replace jV := uP3 eW_ jV
   replace HB := uC3 eW_ HB I4
   clear eW_
   replace a3 := BD a3
   replace jV := BD jV
   replace HB := am (aV HB.1)
   refine sT [] 21 (uA3 jV) (fun hHeld => ?_)
   refine dZ bO.tab4 bO.Dp (fun HT_ HW_ => ?_)
   generalize Hw.drew = ll at a3 jV HB hHeld ⊢
   refine pU6 0 1 2 3 4 5 ?_
   refine tK3 6 (some 23) ?_
   refine oN 7 (some 24) fun K hK => ?_
   refine gQ Try.func81 (bA.calls k1 _ _ l2 ((aC aI oU).f0) true _ (pB IX) D0.1 YV.out) ?_
   rintro w' ⟨nd, rfl⟩
   refine nK hK (uA3 jV).1 fun hHeld => ?_
   clear hK K
   refine pU3 8 9 10 ?_
   refine pV8 11 12 13 14 15 16 17 18 ?_
   refine pV1 19 ?_
   refine pU1 20 ?_
   refine dN ?_
   try go_wp2
   go_roundg k1
   case measure => have := HK1.out; omega
   case rel => exact ⟨(wrap64 (oU + 1)), dH, H', ⟨by have := HK1.out; omega⟩, ⟨rB a3.1⟩, ⟨QT⟩⟩
  ·obtain ⟨w29, eW_⟩ := eW3 Fr sL (.string ((aC aI oU).f0)) (.slice sU ((aC aI oU).f1).length sX) (.slice sV ((aC aI oU).f2).length sY)
   rw [← eW_]
   replace a3 := uF3 eW_ a3 x5
   replace jV := uP3 eW_ jV
   replace HB := uC3 eW_ HB I4
   clear eW_
   replace a3 := BD a3
   replace jV := BD jV
   replace HB := am (aV HB.1)
   obtain ⟨DA, LE, LW, LF, LX, M0, EV, EW, EX, BV, BX, BZ, BQ, GL, qJ, sJ, Gz, QU⟩ := wW dO HB a1
   obtain rfl : oC = DA := (by injection M0)
   refine sT [] 21 (uB3 jV (uB2 a3 (uBx HB EV (uBx HB EW (uAx HB EX))))) (fun hHeld => ?_)
   refine dZ bO.tab4 bO.Dp (fun HT_ HW_ => ?_)
   generalize w29.drew = wt at a3 jV HB BQ qJ BV BX BZ hHeld ⊢
   refine pU6 0 1 2 3 4 5 ?_
   refine tK8 6 (some 23) ?_
   refine oN 7 (some 24) fun K hK => ?_
   refine gQ Try.func81 (bA.calls k1 _ _ l2 ((aC aI oU).f0) false _ (pB IX) D0.1 YV.out) ?_
   rintro w' ⟨nd, rfl⟩
   refine nK hK (uB3 jV (uB2 a3 (uBx HB EV (uBx HB EW (uAx HB EX))))).1 fun hHeld => ?_
   clear hK K
   refine pU6 8 9 10 11 13 15 ?_
   refine tK8 12 (some 29) ?_
   refine tK8 14 (some 31) ?_
   refine pU2 16 17 ?_
   refine tK8 18 (some 35) ?_
   refine oN 19 (some 36) fun K hK => ?_
   refine gQ Try.func78 (oJ.calls _ _ ((aC aI oU).f1) _ _ ((aC aI a1).f2) true _ (pC (Kd.bK pS.1 QT)) pN.1 (pC (Kd.bK qJ.1 QT)) sJ.1 xf.out) ?_
   rintro w31 hb
   replace a3 := bB aQ hb
   replace jV := bB IH hb
   replace HB := bS QT hb
   clear hb
   refine nK hK (uB3 jV (uB2 a3 (uBx HB EV (uBx HB EW (uAx HB EX))))).1 fun hHeld => ?_
   clear hK K
   refine pU1 20 ?_
   refine dN ?_
   try go_wp2
   go_ret
   exact ⟨eR, QT⟩
  ·obtain ⟨jj, eW_⟩ := eW3 Fr sL (.string ((aC aI oU).f0)) (.slice sU ((aC aI oU).f1).length sX) (.slice sV ((aC aI oU).f2).length sY)
   rw [← eW_]
   replace a3 := uF3 eW_ a3 x5
   replace jV := uP3 eW_ jV
   replace HB := uC3 eW_ HB I4
   clear eW_
   replace a3 := BD a3
   replace jV := BD jV
   replace HB := am (aV HB.1)
   obtain ⟨DA, LE, LW, LF, LX, M0, EV, EW, EX, BV, BX, BZ, BQ, GL, qJ, sJ, Gz, QU⟩ := wW dO HB a1
   obtain rfl : oC = DA := (by injection M0)
   refine sT [] 21 (uB3 jV (uB2 a3 (uBx HB EV (uBx HB EW (uAx HB EX))))) (fun hHeld => ?_)
   refine dZ bO.tab4 bO.Dp (fun HT_ HW_ => ?_)
   generalize jj.drew = Ou at a3 jV HB BQ qJ BV BX BZ hHeld ⊢
   refine pU6 0 1 2 3 4 5 ?_
   refine tK8 6 (some 23) ?_
   refine oN 7 (some 24) fun K hK => ?_
   refine gQ Try.func81 (bA.calls k1 _ _ l2 ((aC aI oU).f0) false _ (pB IX) D0.1 YV.out) ?_
   rintro w' ⟨nd, rfl⟩
   refine nK hK (uB3 jV (uB2 a3 (uBx HB EV (uBx HB EW (uAx HB EX))))).1 fun hHeld => ?_
   clear hK K
   refine pU6 8 9 10 11 13 15 ?_
   refine tK8 12 (some 29) ?_
   refine tK8 14 (some 31) ?_
   refine pU2 16 17 ?_
   refine tK8 18 (some 35) ?_
   refine oN 19 (some 36) fun K hK => ?_
   refine gQ Try.func78 (oJ.calls _ _ ((aC aI oU).f1) _ _ ((aC aI a1).f2) false _ (pC (Kd.bK pS.1 QT)) pN.1 (pC (Kd.bK qJ.1 QT)) sJ.1 xf.out) ?_
   rintro Ov hb
   replace a3 := bB aQ hb
   replace jV := bB IH hb
   replace HB := bS QT hb
   clear hb
   refine nK hK (uB3 jV (uB2 a3 (uBx HB EV (uBx HB EW (uAx HB EX))))).1 fun hHeld => ?_
   clear hK K
   refine pU1 20 ?_
   refine dN ?_
   try go_wp2
   go_roundg k1
   case measure => have := HK1.out; omega
   case rel => exact ⟨(wrap64 (oU + 1)), dH, H', ⟨by have := HK1.out; omega⟩, ⟨rB a3.1⟩, ⟨QT⟩⟩
  ·go_ret
   exact ⟨eR, dS⟩
def jG.l0 : Nat → List ByteArray → Int → List ByteArray → List (S56) → Option (Int)
 | 0, _, _, _, _ => none
 | k + 1, c, a, d, b => if a < (b.length : Int) then (if 0 ≤ a then ((dK.f k c ((aC b a).f0)).bind fun e => (if e = true then (jG.l0 k c (wrap64 (a + 1)) d b) else ((iX.f k d b a c).bind fun g => (if g = true then (some a) else (jG.l0 k c (wrap64 (a + 1)) d b))))) else (none)) else (some (-1))
def jG.f (k : Nat) (aY : List ByteArray) (aI : List (S56)) (l1 : List ByteArray) : Option (Int) := jG.l0 k l1 0 aY aI
theorem jG.calls (k : Nat) (eL : Option Addr) (eO : Nat) (aY : List ByteArray) (fJ : Option Addr) (eJ : Nat) (aI : List (S56)) (A1 : Option Addr) (c1 : Nat) (l1 : List ByteArray) (r : Int) (w : World) (iQ : Kd.C Kd.string w eL aY.length aY) (iO : aY.length ≤ eO) (iH : Kd.C k56 w fJ aI.length aI) (iP : aI.length ≤ eJ) (BF : Kd.C Kd.string w A1 l1.length l1) (DK : l1.length ≤ c1) (h : jG.f k aY aI l1 = some r) :
  Calls Try.prog 88 #[.agg #[.slice eL aY.length eO, .slice fJ aI.length eJ], .slice A1 l1.length c1] w fun e w' => e = .returned (.int .i64 r) ∧ Below w.heap.size w w' := by
 have hu31 := Try.underlying31
 obtain ⟨eQ, eP⟩ := mZ2 iQ iO
 obtain ⟨dO, fP⟩ := mZ2 iH iP
 obtain ⟨tO, zK⟩ := mZ2 BF DK
 clear iQ iO iH iP BF DK
 have HB := am (Below.refl w.heap.size w)
 unfold jG.f at h
 have H := h
 clear h
 have H' := am H
 repeat clear H
 go_enter Try.func88, Try.ntmps88
 go_wp2_with (first | ((with_reducible refine gD 2 ?_); refine bX 2 #[.slice eL aY.length eO, .slice fJ aI.length eJ] 31 ?_; intro aJ hg w3 hbox hb; have a3 := am hbox; have gH := am (u0 : w.heap.size ≤ aJ); have iE := gH; replace HB := bS eI hb; clear hb hbox hg))
 go_loopg [5] k (fun kq v5 w' => ∃ (bV : Int), v5 = .int .i64 bV ∧ aA (jG.l0 kq l1 bV aY aI = some r) ∧ aA (kq ≤ k) ∧ aA (w'.heap[aJ]? = some (.cells #[(.slice eL aY.length eO), (.slice fJ aI.length eJ)] 31 (0, 0))) ∧ aA (Below w.heap.size w w'))
 case atStart => exact ⟨(0), dH, H', ⟨Nat.le_refl _⟩, ⟨rB a3.1⟩, ⟨dS⟩⟩
 clear H'
 try clear c1
 obtain ⟨bV, rfl, HA, HK1, a3, HB⟩ := hrel
 cases gk with
 | zero => exact absurd HA.out (by simp [jG.l0])
 | succ k1 =>
  have H := HA.out
  clear HA
  simp only [jG.l0] at H
  refine ic H ?_ ?_ <;> clear H <;> intro vT H
  ·obtain ⟨EO, H⟩ := cN H
   obtain ⟨eK, A6, H⟩ := bd H
   refine tC H ?_ ?_ <;> clear H <;> intro c7 H <;> subst c7
   ·have H' := am H
    repeat clear H
    have Z8 := cz2 a3
    obtain ⟨oC, sU, sX, sV, sY, sG, o2, oY, oZ, pS, pN, tP, tM, CV, CY⟩ := aT56 dO HB bV
    cases sG
    go_wp2_with (first | ((with_reducible refine gC 80 ?_); refine cQ (some 20) Try.func80 (dK.calls k1 _ _ l1 ((aC aI bV).f0) true _ (pB tO) zK.1 A6.out) ?_; rintro w' ⟨nd, rfl⟩))
    go_roundg k1
    case measure => have := HK1.out; omega
    case rel => exact ⟨(wrap64 (bV + 1)), dH, H', ⟨by have := HK1.out; omega⟩, ⟨rB a3.1⟩, ⟨dS⟩⟩
   ·obtain ⟨dI, A9, H⟩ := bd H
    refine tC H ?_ ?_ <;> clear H <;> intro X7 H <;> subst X7
    ·obtain rfl := Option.some.inj H
     repeat clear H
     have Po := cz2 a3
     obtain ⟨oC, sU, sX, sV, sY, sG, o2, oY, oZ, pS, pN, tP, tM, CV, CY⟩ := aT56 dO HB bV
     cases sG
     go_wp2_with (first | ((with_reducible refine gC 80 ?_); refine cQ (some 20) Try.func80 (dK.calls k1 _ _ l1 ((aC aI bV).f0) false _ (pB tO) zK.1 A6.out) ?_; rintro w' ⟨nd, rfl⟩) | (go_at_call 83; refine cM (iX.calls k1 _ _ aY _ _ aI bV _ _ l1 true _ (pC (Kd.bK eQ.1 dS)) eP.1 (pC (Kd.bK dO.1 dS)) fP.1 (pC (Kd.bK tO.1 dS)) zK.1 A9.out) ?_; rintro w12 hb; replace a3 := bB aQ hb; replace HB := bS dS hb; clear hb))
     go_ret
     exact ⟨eR, dS⟩
    ·have H' := am H
     repeat clear H
     have Ki := cz2 a3
     obtain ⟨oC, sU, sX, sV, sY, sG, o2, oY, oZ, pS, pN, tP, tM, CV, CY⟩ := aT56 dO HB bV
     cases sG
     go_wp2_with (first | ((with_reducible refine gC 80 ?_); refine cQ (some 20) Try.func80 (dK.calls k1 _ _ l1 ((aC aI bV).f0) false _ (pB tO) zK.1 A6.out) ?_; rintro w' ⟨nd, rfl⟩) | (go_at_call 83; refine cM (iX.calls k1 _ _ aY _ _ aI bV _ _ l1 false _ (pC (Kd.bK eQ.1 dS)) eP.1 (pC (Kd.bK dO.1 dS)) fP.1 (pC (Kd.bK tO.1 dS)) zK.1 A9.out) ?_; rintro wn hb; replace a3 := bB aQ hb; replace HB := bS dS hb; clear hb))
     go_roundg k1
     case measure => have := HK1.out; omega
     case rel => exact ⟨(wrap64 (bV + 1)), dH, H', ⟨by have := HK1.out; omega⟩, ⟨rB a3.1⟩, ⟨dS⟩⟩
  ·obtain rfl := Option.some.inj H
   repeat clear H
   have Z15 := cz2 a3
   go_wp2
   go_ret
   exact ⟨eR, dS⟩
def fC.l0 : Nat → List ByteArray → List ByteArray → List (S56) → Option (List ByteArray × Bool)
 | 0, _, _, _ => none
 | k + 1, a, d, b => if (a.length : Int) < (b.length : Int) then ((jG.f k d b a).bind fun c => (if c < 0 then (some ((([] : List ByteArray)), false)) else (if 0 ≤ c then (if c < (b.length : Int) then (if a.length < 8796093022208 then (fC.l0 k (a ++ [(aC b c).f0]) d b) else (none)) else (none)) else (none)))) else (some (a, true))
def fC.f (k : Nat) (aY : List ByteArray) (aI : List (S56)) : Option (List ByteArray × Bool) := (some (([] : List ByteArray) : List ByteArray)).bind fun a => ((aH.f k aY aI).bind fun b => (if b = true then (fC.l0 k a aY aI) else (some (a, false))))
theorem fC.calls (k : Nat) (eL : Option Addr) (eO : Nat) (aY : List ByteArray) (fJ : Option Addr) (eJ : Nat) (aI : List (S56)) (r1 : List ByteArray) (r2 : Bool) (w : World) (iQ : Kd.C Kd.string w eL aY.length aY) (iO : aY.length ≤ eO) (iH : Kd.C k56 w fJ aI.length aI) (iP : aI.length ≤ eJ) (h : fC.f k aY aI = some (r1, r2)) :
  Calls Try.prog 44 #[.agg #[.slice eL aY.length eO, .slice fJ aI.length eJ]] w fun e w' => ∃ v0_ : Value, e = .returned (.tuple #[v0_, .bool r2]) ∧ Kd.R Kd.string 9 w' w.heap.size (fun _ => True) v0_ r1 ∧ Below w.heap.size w w' := by
 have hu31 := Try.underlying31
 obtain ⟨eQ, eP⟩ := mZ2 iQ iO
 obtain ⟨dO, fP⟩ := mZ2 iH iP
 clear iQ iO iH iP
 have HB := am (Below.refl w.heap.size w)
 unfold fC.f at h
 have H := h
 clear h
 obtain ⟨jm, hy102⟩ : ∃ y_ : List ByteArray, y_ = (([] : List ByteArray)) := ⟨_, rfl⟩
 replace H : ((aH.f k aY aI).bind fun fI => (if fI = true then (fC.l0 k jm aY aI) else (some (jm, false)))) = some (r1, r2) := by first | (rw [hy102]; with_reducible exact H) | (have H2_ := (Option.bind_some _ _).symm.trans H; rw [hy102]; with_reducible exact H2_) | (have H2_ := (Option.bind_some _ _).symm.trans H; with_reducible exact H2_) | with_reducible exact H | (rw [hy102]; exact H) | exact H
 have Vg := am hy102
 clear hy102
 obtain ⟨fI, A2, H⟩ := bd H
 refine tC H ?_ ?_ <;> clear H <;> intro c3 H <;> subst c3
 ·have H' := am H
  repeat clear H
  go_enter Try.func44, Try.ntmps44
  go_wp2_with (first | ((with_reducible refine gD 1 ?_); refine bX 1 #[.slice eL aY.length eO, .slice fJ aI.length eJ] 31 ?_; intro aJ hg w4 hbox hb; have a3 := am hbox; have gH := am (u0 : w.heap.size ≤ aJ); have iE := gH; replace HB := bS eI hb; clear hb hbox hg) | ((with_reducible refine jD (N := 6) rfl ?_); refine lS 9 6 Vg ?_; intro Hq w5 ho6 hb; have mG := am (Kd.cO ho6 (aG dS)); replace a3 := bB aQ hb; replace HB := bS dS hb; clear hb ho6; have Z7 := cz2 a3) | ((with_reducible refine gC 22 ?_); refine cQ (some 8) Try.func22 (aH.calls k _ _ aY _ _ aI true _ (pB eQ) eP.1 (pB dO) fP.1 A2.out) ?_; rintro w8 hb; replace mG := RB NH hb; replace a3 := bB aQ hb; replace HB := bS dS hb; clear hb))
  go_loopg [4] k (fun kq v4 w' => ∃ (mI : List ByteArray), aA (fC.l0 kq mI aY aI = some (r1, r2)) ∧ aA (kq ≤ k) ∧ aA (Kd.R Kd.string 9 w' w.heap.size (fun _ => True) v4 mI) ∧ aA (w'.heap[aJ]? = some (.cells #[(.slice eL aY.length eO), (.slice fJ aI.length eJ)] 31 (0, 0))) ∧ aA (Below w.heap.size w w'))
  case atStart => exact ⟨(jm), H', ⟨Nat.le_refl _⟩, ⟨rR mG.1⟩, ⟨rB a3.1⟩, ⟨dS⟩⟩
  clear H'
  try clear c3
  try clear Z7
  obtain ⟨mI, HA, HK1, lO, a3, HB⟩ := hrel
  cases gk with
  | zero => exact absurd HA.out (by simp [fC.l0])
  | succ k1 =>
   have H := HA.out
   clear HA
   simp only [fC.l0] at H
   by_cases c9 : (mI.length : Int) < (aI.length : Int)
   ·rw [if_pos c9] at H
    have LY : decide ((mI.length : Int) < (aI.length : Int)) = true := decide_eq_true c9
    have Lh : decide (mI.length < aI.length) = true := decide_eq_true (Int.ofNat_lt.mp c9)
    clear c9
    obtain ⟨fO, jr, H⟩ := bd H
    refine ic H ?_ ?_ <;> clear H <;> intro ID H
    ·obtain ⟨R5, hy107⟩ : ∃ y_ : List ByteArray, y_ = (([] : List ByteArray)) := ⟨_, rfl⟩
     replace H : (some (R5, false)) = some (r1, r2) := by first | (rw [hy107]; with_reducible exact H) | (have H2_ := (Option.bind_some _ _).symm.trans H; rw [hy107]; with_reducible exact H2_) | (have H2_ := (Option.bind_some _ _).symm.trans H; with_reducible exact H2_) | with_reducible exact H | (rw [hy107]; exact H) | exact H
     have JS := am hy107
     clear hy107
     obtain ⟨rfl, rfl⟩ := sZ2 H
     repeat clear H
     obtain ⟨o3, nW, Lv⟩ := Kd.bN lO.1
     subst Lv
     have Ki := cz2 a3
     go_wp2_with (first | ((with_reducible refine gC 88 ?_); refine cQ (some 19) Try.func88 (jG.calls k1 _ _ aY _ _ aI _ _ mI fO _ (pB eQ) eP.1 (pB dO) fP.1 (pC (Kd.aT lO.1).2.2) ((Kd.aT lO.1).2.1) jr.out) ?_; rintro wn hb; replace lO := RB DQ hb; replace a3 := bB aQ hb; replace HB := bS dS hb; clear hb) | ((with_reducible refine jD (N := 22) rfl ?_); refine lS 9 22 JS ?_; intro FP wo et hb; have fQ := am (Kd.cO (Kd.eF et (Kd.R_lt DQ)) (aG dS)); replace lO := am (Kd.dJ DQ (Kd.bL et) hb); replace a3 := bB aQ hb; replace HB := bS dS hb; clear hb et))
     go_ret2
     exact ⟨_, eR, by refine rR ?_; exact Kd.aM fQ.1 (fun _ hk => trivial), dS⟩
    ·obtain ⟨La, H⟩ := cN H
     obtain ⟨vO, H⟩ := cN H
     obtain ⟨nj, H⟩ := cL H
     obtain ⟨aB0, Jq⟩ := yv (mI ++ [(aC aI fO).f0]); first | replace H := bW Jq H | rw [← Jq.1] at H
     have H' := am H
     repeat clear H
     obtain ⟨xP, o6, An⟩ := Kd.bN lO.1
     subst An
     have Z21 := cz2 a3
     go_wp2_with (first | ((with_reducible refine gC 88 ?_); refine cQ (some 19) Try.func88 (jG.calls k1 _ _ aY _ _ aI _ _ mI fO _ (pB eQ) eP.1 (pB dO) fP.1 (pC (Kd.aT lO.1).2.2) ((Kd.aT lO.1).2.1) jr.out) ?_; rintro Tx hb; replace lO := RB DQ hb; replace a3 := bB aQ hb; replace HB := bS dS hb; clear hb; have Z23 := cz2 a3; obtain ⟨aEK, a3K, a5S, a3L, a5T, a7G, a2S, a2T, a2U, ya, xl, yb, xm, aNT, aNY⟩ := aT56 dO HB fO; cases a7G) | ((with_reducible refine pY (b := .append) (xs := #[.tmp 23, .tmp 30]) rfl ?_); at_builtin; refine Kd.zX Kd.string (w0 := w) w.heap.size rfl (.tmp 23) (.tmp 30) 23 9 (.string ⟨#[]⟩) 16 rfl Try.underlying23 jT rfl (by decide) (by omega) (.slice xP mI.length o6) mI ((aC aI fO).f0) [.string ((aC aI fO).f0)] (fun _ => True) (fun _ => False) rfl rfl ?aP (fun _ hk => hk.elim) ?aF ?aO ?aB ?aS ?aL ?_; (case aP => exact rfl); (case aB => exact dS); (case aF => exact (fun _ _ => trivial)); (case aO => exact DQ); (case aS => exact (aG dS)); (case aL => have := nj.out; omega); intro wi ws ho hb hg hat; rw [← Jq.out] at ho; replace a3 := gkR aQ hg lO a3; replace HB := am hb; have Ck := am ho; clear lO; clear ho hb hg hat))
     go_roundg k1
     case measure => have := HK1.out; omega
     case rel => exact ⟨(aB0), H', ⟨by have := HK1.out; omega⟩, ⟨rR Ck.1⟩, ⟨rB a3.1⟩, ⟨dS⟩⟩
   ·rw [if_neg c9] at H
    have LY : decide ((mI.length : Int) < (aI.length : Int)) = false := decide_eq_false c9
    have Lh : decide (mI.length < aI.length) = false := decide_eq_false (fun h => c9 (Int.ofNat_lt.mpr h))
    clear c9
    obtain ⟨rfl, rfl⟩ := sZ2 H
    repeat clear H
    obtain ⟨Px, Rq, Ao⟩ := Kd.bN lO.1
    subst Ao
    have Z26 := cz2 a3
    go_wp2
    go_ret2
    exact ⟨_, eR, rR lO.1, dS⟩
 obtain ⟨rfl, rfl⟩ := sZ2 H
 repeat clear H
 go_enter Try.func44, Try.ntmps44
 go_wp2_with (first | ((with_reducible refine gD 1 ?_); refine bX 1 #[.slice eL aY.length eO, .slice fJ aI.length eJ] 31 ?_; intro aJ hg YM hbox hb; have a3 := am hbox; have gH := am (u0 : w.heap.size ≤ aJ); have iE := gH; replace HB := bS eI hb; clear hb hbox hg) | ((with_reducible refine jD (N := 6) rfl ?_); refine lS 9 6 Vg ?_; intro Hq w28 uv hb; have mG := am (Kd.cO uv (aG dS)); replace a3 := bB aQ hb; replace HB := bS dS hb; clear hb uv; have Z30 := cz2 a3) | ((with_reducible refine gC 22 ?_); refine cQ (some 8) Try.func22 (aH.calls k _ _ aY _ _ aI false _ (pB eQ) eP.1 (pB dO) fP.1 A2.out) ?_; rintro w31 hb; replace mG := RB NH hb; replace a3 := bB aQ hb; replace HB := bS dS hb; clear hb))
 go_ret2
 exact ⟨_, eR, rR mG.1, dS⟩
def lJ.f (k : Nat) (aY : List ByteArray) (aI : List (S56)) : Option (Bool) := (fC.f k aY aI).bind fun a => (some a.2)
theorem lJ.calls (k : Nat) (eL : Option Addr) (eO : Nat) (aY : List ByteArray) (fJ : Option Addr) (eJ : Nat) (aI : List (S56)) (r : Bool) (w : World) (iQ : Kd.C Kd.string w eL aY.length aY) (iO : aY.length ≤ eO) (iH : Kd.C k56 w fJ aI.length aI) (iP : aI.length ≤ eJ) (h : lJ.f k aY aI = some r) :
  Calls Try.prog 35 #[.agg #[.slice eL aY.length eO, .slice fJ aI.length eJ]] w fun e w' => e = .returned (.bool r) ∧ Below w.heap.size w w' := by
 have hu31 := Try.underlying31
 obtain ⟨eQ, eP⟩ := mZ2 iQ iO
 obtain ⟨dO, fP⟩ := mZ2 iH iP
 clear iQ iO iH iP
 have HB := am (Below.refl w.heap.size w)
 unfold lJ.f at h
 have H := h
 clear h
 obtain ⟨⟨kQ, fI⟩, A2, H⟩ := bd H
 dsimp only at H
 obtain rfl := Option.some.inj H
 repeat clear H
 go_enter Try.func35, Try.ntmps35
 go_wp2_with (first | ((with_reducible refine gD 1 ?_); refine bX 1 #[.slice eL aY.length eO, .slice fJ aI.length eJ] 31 ?_; intro aJ hg w3 hbox hb; have a3 := am hbox; have gH := am (u0 : w.heap.size ≤ aJ); have iE := gH; replace HB := bS eI hb; clear hb hbox hg; have Z4 := cz2 a3) | ((with_reducible refine gC 44 ?_); refine cE (some 7) Try.func44 (fC.calls k _ _ aY _ _ aI kQ fI _ (pB eQ) eP.1 (pB dO) fP.1 A2.out) ?_; rintro e w5 ⟨Hq, rfl, hD, hb⟩; refine ⟨_, rfl, ?_⟩; have mG := am (Kd.cO hD (aG dS)); replace a3 := bB aQ hb; replace HB := bS dS hb; clear hb hD))
 go_ret
 exact ⟨eR, dS⟩
mutual
def dU.l0 : Nat → List ByteArray → List ByteArray → List (S56) → Option (List ByteArray × Bool)
 | 0, _, _, _ => none
 | k + 1, a, c, b => if (a.length : Int) < (b.length : Int) then (dU.l1 k a (a.length : Int) b (b.length : Int) 0 c b) else (some (a, true))
def dU.l1 : Nat → List ByteArray → Int → List (S56) → Int → Int → List ByteArray → List (S56) → Option (List ByteArray × Bool)
 | 0, _, _, _, _, _, _, _ => none
 | k + 1, a, g, c, h, b, d, e => if b < h then (if 0 ≤ b then (if b < (c.length : Int) then ((bA.f k a ((aC c b).f0)).bind fun j => (if j = true then (dU.l1 k a g c h (wrap64 (b + 1)) d e) else ((bO.f k d e b a).bind fun l => (if l = true then (if a.length < 8796093022208 then ((some (a ++ [(aC c b).f0] : List ByteArray)).bind fun i => (if (i.length : Int) = g then (some (([] : List ByteArray), false)) else (dU.l0 k i d e))) else (none)) else (dU.l1 k a g c h (wrap64 (b + 1)) d e))))) else (none)) else (none)) else (if (a.length : Int) = g then (some (([] : List ByteArray), false)) else (dU.l0 k a d e))
end
def dU.f (k : Nat) (aY : List ByteArray) (aI : List (S56)) : Option (List ByteArray × Bool) := (aN.f k aY aI).bind fun a => (if a = true then (dU.l0 k (([] : List ByteArray)) aY aI) else (some (([] : List ByteArray), false)))
theorem dU.calls (k : Nat) (eL : Option Addr) (eO : Nat) (aY : List ByteArray) (fJ : Option Addr) (eJ : Nat) (aI : List (S56)) (r1 : List ByteArray) (r2 : Bool) (w : World) (iQ : Kd.C Kd.string w eL aY.length aY) (iO : aY.length ≤ eO) (iH : Kd.C k56 w fJ aI.length aI) (iP : aI.length ≤ eJ) (h : dU.f k aY aI = some (r1, r2)) :
  Calls Try.prog 45 #[.agg #[.slice eL aY.length eO, .slice fJ aI.length eJ]] w fun e w' => ∃ v0_ : Value, e = .returned (.tuple #[v0_, .bool r2]) ∧ Kd.R Kd.string 9 w' w.heap.size (fun _ => True) v0_ r1 ∧ Below w.heap.size w w' := by
 have hu31 := Try.underlying31
 have hu56 := Try.underlying56
 obtain ⟨eQ, eP⟩ := mZ2 iQ iO
 obtain ⟨dO, fP⟩ := mZ2 iH iP
 clear iQ iO iH iP
 have HB := am (Below.refl w.heap.size w)
 unfold dU.f at h
 have H := h
 clear h
 obtain ⟨kQ, A2, H⟩ := bd H
 refine tC H ?_ ?_ <;> clear H <;> intro c3 H <;> subst c3
 ·obtain ⟨I3, hy103⟩ : ∃ y_ : List ByteArray, y_ = (([] : List ByteArray)) := ⟨_, rfl⟩
  replace H : (dU.l0 k I3 aY aI) = some (r1, r2) := by first | (rw [hy103]; with_reducible exact H) | (have H2_ := (Option.bind_some _ _).symm.trans H; rw [hy103]; with_reducible exact H2_) | (have H2_ := (Option.bind_some _ _).symm.trans H; with_reducible exact H2_) | with_reducible exact H | (rw [hy103]; exact H) | exact H
  have MQ := am hy103
  clear hy103
  have H' := am H
  repeat clear H
  go_enter Try.func45, Try.ntmps45
  go_wp2_with (first | ((with_reducible refine gD 1 ?_); refine bX 1 #[.slice eL aY.length eO, .slice fJ aI.length eJ] 31 ?_; intro aJ hg w4 hbox hb; have a3 := am hbox; have gH := am (u0 : w.heap.size ≤ aJ); have iE := gH; replace HB := bS eI hb; clear hb hbox hg; have Z5 := cz2 a3) | ((with_reducible refine gC 24 ?_); refine cQ (some 9) Try.func24 (aN.calls k _ _ aY _ _ aI true _ (pB eQ) eP.1 (pB dO) fP.1 A2.out) ?_; rintro w6 hb; replace a3 := bB aQ hb; replace HB := bS dS hb; clear hb) | ((with_reducible refine jD (N := 11) rfl ?_); refine lS 9 11 MQ ?_; intro DU w7 ux hb; have nS := am (Kd.cO ux (aG dS)); replace a3 := bB aQ hb; replace HB := bS dS hb; clear hb ux))
  go_loopg [4] k (fun kq v4 w' => ∃ (mI : List ByteArray), aA (dU.l0 kq mI aY aI = some (r1, r2)) ∧ aA (kq ≤ k) ∧ aA (Kd.R Kd.string 9 w' w.heap.size (fun _ => True) v4 mI) ∧ aA (w'.heap[aJ]? = some (.cells #[(.slice eL aY.length eO), (.slice fJ aI.length eJ)] 31 (0, 0))) ∧ aA (Below w.heap.size w w'))
  case atStart => exact ⟨(I3), H', ⟨Nat.le_refl _⟩, ⟨rR nS.1⟩, ⟨rB a3.1⟩, ⟨dS⟩⟩
  clear H'
  try clear c3
  try clear Z5
  obtain ⟨mI, HA, HK1, lO, a3, HB⟩ := hrel
  cases gk with
  | zero => exact absurd HA.out (by simp [dU.l0])
  | succ k1 =>
   have H := HA.out
   clear HA
   simp only [dU.l0] at H
   by_cases c9 : (mI.length : Int) < (aI.length : Int)
   ·rw [if_pos c9] at H
    have LY : decide ((mI.length : Int) < (aI.length : Int)) = true := decide_eq_true c9
    have Lh : decide (mI.length < aI.length) = true := decide_eq_true (Int.ofNat_lt.mp c9)
    clear c9
    have H' := am H
    repeat clear H
    obtain ⟨iG, iD, Lu⟩ := Kd.bN lO.1
    subst Lu
    have Po := cz2 a3
    go_wp2
    go_loopg [4, 23] k1 (fun kq v4 v23 w' => ∃ (tK : List ByteArray) (mL : Int), v23 = .int .i64 mL ∧ aA (dU.l1 kq tK (mI.length : Int) aI (aI.length : Int) mL aY aI = some (r1, r2)) ∧ aA (kq ≤ k1) ∧ aA (Kd.R Kd.string 9 w' w.heap.size (fun _ => True) v4 tK) ∧ aA (w'.heap[aJ]? = some (.cells #[(.slice eL aY.length eO), (.slice fJ aI.length eJ)] 31 (0, 0))) ∧ aA (Below w.heap.size w w'))
    case atStart => exact ⟨(mI), (0), dH, H', ⟨Nat.le_refl _⟩, ⟨rR lO.1⟩, ⟨rB a3.1⟩, ⟨dS⟩⟩
    case round =>
     clear H'
     try clear c3
     try clear c9
     try clear LY
     try clear Lh
     try clear Po
     try clear Z5
     obtain ⟨tK, mL, rfl, HA, HK2, lO, a3, HB⟩ := hrel
     cases gk with
     | zero => exact absurd HA.out (by simp [dU.l1])
     | succ k2 =>
      have H := HA.out
      clear HA
      simp only [dU.l1] at H
      refine ic H ?_ ?_ <;> clear H <;> intro MU H
      ·obtain ⟨MV, H⟩ := cN H
       obtain ⟨S0, H⟩ := cN H
       obtain ⟨fW, YV, H⟩ := bd H
       refine tC H ?_ ?_ <;> clear H <;> intro U9 H <;> subst U9
       ·have H' := am H
        repeat clear H
        obtain ⟨vK, zS, AB, CL, CR, CS, p2, z8, z9, yX, GM, yY, GN, M8, GI⟩ := aT56 dO HB mL
        cases CS
        go_wp2_with (first | ((with_reducible refine gD 7 ?_); refine bX 7 #[.string (⟨#[]⟩ : ByteArray), .slice none 0 0, .slice none 0 0] 56 ?_; intro uH hg Pu hbox hb; replace lO := RB DQ hb; have gL := am hbox; have JM := am (GG : w.heap.size ≤ uH); have R9 := JM; replace HB := bS dS hb; have qL := nL aQ hg; have x6 := nG aQ hg; replace a3 := bB aQ hb; clear hb hbox hg; have yg := nZ1 x6 qL; have yh := cz3 gL; obtain ⟨xP, o6, An⟩ := Kd.bN lO.1; subst An) | ((with_reducible refine mU (f := 81) rfl ?_); refine wE (some 31) rfl rfl Try.func81 (by kernel_rfl) rfl #[.slice xP tK.length o6, .string ((aC aI mL).f0)] rfl FO ?_; (with_reducible refine (bA.calls k2 _ _ tK ((aC aI mL).f0) true _ ?side1 ?side2 YV.out).mono ?_); (case side1 => refine (Kd.aT (e := 9) (base := w.heap.size) (ok := fun k_ => True) (n := tK.length) (c := o6) ?_).2.2; exact Ps); (case side2 => exact (Kd.aT lO.1).2.1); rintro e w' ⟨rfl, ⟨nd, rfl⟩⟩; refine ⟨_, rfl, ?_⟩))
        go_roundg k2
        case measure => have := HK1.out; have := HK2.out; omega
        case rel => exact ⟨(tK), (wrap64 (mL + 1)), dH, H', ⟨by have := HK1.out; have := HK2.out; omega⟩, ⟨mR lO gL⟩, ⟨qF a3 qL⟩, ⟨GH⟩⟩
       ·obtain ⟨DR, js, H⟩ := bd H
        refine tC H ?_ ?_ <;> clear H <;> intro c22 H <;> subst c22
        ·obtain ⟨Uo, H⟩ := cL H
         obtain ⟨GJ, RM, H⟩ := bY H
         by_cases X9 : (GJ.length : Int) = (mI.length : Int)
         ·rw [if_pos X9] at H
          have qw : ((GJ.length : Int) == (mI.length : Int)) = true := beq_iff_eq.mpr X9
          have qx : ((GJ.length : Int) != (mI.length : Int)) = false := bne_eq_false_iff_eq.mpr X9
          have qy : (GJ.length == mI.length) = true := by first | simpa using X9 | (simp at X9 ⊢; omega)
          clear X9
          obtain ⟨rfl, rfl⟩ := sZ2 H
          repeat clear H
          obtain ⟨vK, zS, AB, CL, CR, CS, p2, z8, z9, yX, GM, yY, GN, M8, GI⟩ := aT56 dO HB mL
          cases CS
          go_wp2_with (first | ((with_reducible refine gD 7 ?_); refine bX 7 #[.string (⟨#[]⟩ : ByteArray), .slice none 0 0, .slice none 0 0] 56 ?_; intro uH hg w25 hbox hb; replace lO := RB DQ hb; have gL := am hbox; have JM := am (GG : w.heap.size ≤ uH); have R9 := JM; replace HB := bS dS hb; have qL := nL aQ hg; have x6 := nG aQ hg; replace a3 := bB aQ hb; clear hb hbox hg; have Z26 := nZ1 x6 qL; have Z27 := cz3 gL; obtain ⟨mc, Rs, a7R⟩ := Kd.bN lO.1; subst a7R) | ((with_reducible refine mU (f := 81) rfl ?_); refine wE (some 31) rfl rfl Try.func81 (by kernel_rfl) rfl #[.slice mc tK.length Rs, .string ((aC aI mL).f0)] rfl FO ?_; (with_reducible refine (bA.calls k2 _ _ tK ((aC aI mL).f0) false _ ?side1 ?side2 YV.out).mono ?_); (case side1 => refine (Kd.aT (e := 9) (base := w.heap.size) (ok := fun k_ => True) (n := tK.length) (c := Rs) ?_).2.2; exact Ps); (case side2 => exact (Kd.aT lO.1).2.1); rintro e w' ⟨rfl, ⟨nd, rfl⟩⟩; refine ⟨_, rfl, ?_⟩; have Z29 := cz2 a3) | (go_at_call 85; (with_reducible refine (bO.calls k2 _ _ aY _ _ aI mL _ _ tK true _ ?side1 ?side2 ?side3 ?side4 ?side5 ?side6 js.out).mono ?_); (case side1 => exact Kd.bK eQ.1 GH); (case side2 => exact eP.1); (case side3 => exact Kd.bK dO.1 GH); (case side4 => exact fP.1); (case side5 => refine (Kd.aT (e := 9) (base := w.heap.size) (ok := fun k_ => True) (n := tK.length) (c := Rs) ?_).2.2; exact Ps); (case side6 => exact (Kd.aT lO.1).2.1); rintro e wt ⟨rfl, hb⟩; replace lO := RB Ps hb; replace a3 := am (dL (g := aJ) (o := .cells #[.slice eL aY.length eO, .slice (some vK) aI.length eJ] 31 (0, 0)) pY4 hb); replace gL := am (dL (g := uH) (o := .cells #[.string ((aC aI mL).f0), .slice zS ((aC aI mL).f1).length AB, .slice CL ((aC aI mL).f2).length CR] 56 (0, 0)) pY2 hb); replace HB := bS GH hb; clear hb; have Z31 := cz3 gL) | ((with_reducible refine pY (b := .append) (xs := #[.tmp 39, .tmp 42]) rfl ?_); at_builtin; refine Kd.zX Kd.string (w0 := w) w.heap.size rfl (.tmp 39) (.tmp 42) 23 9 (.string ⟨#[]⟩) 16 rfl Try.underlying23 jT rfl (by decide) (by omega) (.slice mc tK.length Rs) tK ((aC aI mL).f0) [.string ((aC aI mL).f0)] (fun _ => True) (fun _ => False) rfl rfl ?aP (fun _ hk => hk.elim) ?aF ?aO ?aB ?aS ?aL ?_; (case aP => exact rfl); (case aB => exact GH); (case aF => exact (fun _ _ => trivial)); (case aO => exact DQ); (case aS => exact (aG GH)); (case aL => have := Uo.out; omega); intro NW w32 ho hb hg hat; rw [← RM.out] at ho; replace a3 := gkR aQ hg lO a3; replace gL := gkR xX hg lO gL; replace HB := am hb; have vH := am ho; clear lO; clear ho hb hg hat; obtain ⟨aL5, aN2, a7S⟩ := Kd.bN vH.1; subst a7S))
          go_ret2
          exact ⟨_, eR, by first | exact Kd.vJ _ _ _ _ _ | exact Kd.zV _ _ _ _ _ | exact Kd.zZ _ _ _ _ _ | exact Kd.zW _ _ _ _ _ | exact Kd.zY _ _ _ _ _, GH⟩
         ·rw [if_neg X9] at H
          have qw : ((GJ.length : Int) == (mI.length : Int)) = false := beq_eq_false_iff_ne.mpr X9
          have qx : ((GJ.length : Int) != (mI.length : Int)) = true := bne_iff_ne.mpr X9
          have qy : (GJ.length == mI.length) = false := by first | simpa using X9 | (simp at X9 ⊢; omega)
          have H' := am H
          repeat clear H
          obtain ⟨vK, zS, AB, CL, CR, CS, p2, z8, z9, yX, GM, yY, GN, M8, GI⟩ := aT56 dO HB mL
          cases CS
          go_wp2_with (first | ((with_reducible refine gD 7 ?_); refine bX 7 #[.string (⟨#[]⟩ : ByteArray), .slice none 0 0, .slice none 0 0] 56 ?_; intro uH hg ln hbox hb; replace lO := RB DQ hb; have gL := am hbox; have JM := am (GG : w.heap.size ≤ uH); have R9 := JM; replace HB := bS dS hb; have qL := nL aQ hg; have x6 := nG aQ hg; replace a3 := bB aQ hb; clear hb hbox hg; have pv := nZ1 x6 qL; have Z36 := cz3 gL; obtain ⟨Ic, Ab, Aq⟩ := Kd.bN lO.1; subst Aq) | ((with_reducible refine mU (f := 81) rfl ?_); refine wE (some 31) rfl rfl Try.func81 (by kernel_rfl) rfl #[.slice Ic tK.length Ab, .string ((aC aI mL).f0)] rfl FO ?_; (with_reducible refine (bA.calls k2 _ _ tK ((aC aI mL).f0) false _ ?side1 ?side2 YV.out).mono ?_); (case side1 => refine (Kd.aT (e := 9) (base := w.heap.size) (ok := fun k_ => True) (n := tK.length) (c := Ab) ?_).2.2; exact Ps); (case side2 => exact (Kd.aT lO.1).2.1); rintro e w' ⟨rfl, ⟨nd, rfl⟩⟩; refine ⟨_, rfl, ?_⟩; have Z38 := cz2 a3) | (go_at_call 85; (with_reducible refine (bO.calls k2 _ _ aY _ _ aI mL _ _ tK true _ ?side1 ?side2 ?side3 ?side4 ?side5 ?side6 js.out).mono ?_); (case side1 => exact Kd.bK eQ.1 GH); (case side2 => exact eP.1); (case side3 => exact Kd.bK dO.1 GH); (case side4 => exact fP.1); (case side5 => refine (Kd.aT (e := 9) (base := w.heap.size) (ok := fun k_ => True) (n := tK.length) (c := Ab) ?_).2.2; exact Ps); (case side6 => exact (Kd.aT lO.1).2.1); rintro e WQ ⟨rfl, hb⟩; replace lO := RB Ps hb; replace a3 := am (dL (g := aJ) (o := .cells #[.slice eL aY.length eO, .slice (some vK) aI.length eJ] 31 (0, 0)) pY4 hb); replace gL := am (dL (g := uH) (o := .cells #[.string ((aC aI mL).f0), .slice zS ((aC aI mL).f1).length AB, .slice CL ((aC aI mL).f2).length CR] 56 (0, 0)) pY2 hb); replace HB := bS GH hb; clear hb; have Z40 := cz3 gL) | ((with_reducible refine pY (b := .append) (xs := #[.tmp 39, .tmp 42]) rfl ?_); at_builtin; refine Kd.zX Kd.string (w0 := w) w.heap.size rfl (.tmp 39) (.tmp 42) 23 9 (.string ⟨#[]⟩) 16 rfl Try.underlying23 jT rfl (by decide) (by omega) (.slice Ic tK.length Ab) tK ((aC aI mL).f0) [.string ((aC aI mL).f0)] (fun _ => True) (fun _ => False) rfl rfl ?aP (fun _ hk => hk.elim) ?aF ?aO ?aB ?aS ?aL ?_; (case aP => exact rfl); (case aB => exact GH); (case aF => exact (fun _ _ => trivial)); (case aO => exact DQ); (case aS => exact (aG GH)); (case aL => have := Uo.out; omega); intro NW jk ho hb hg hat; rw [← RM.out] at ho; replace a3 := gkR aQ hg lO a3; replace gL := gkR xX hg lO gL; replace HB := am hb; have vH := am ho; clear lO; clear ho hb hg hat; obtain ⟨Fw, J6, Gm⟩ := Kd.bN vH.1; subst Gm))
          go_roundg k2
          case measure => have := HK1.out; have := HK2.out; omega
          case rel => exact ⟨(GJ), H', ⟨by have := HK1.out; have := HK2.out; omega⟩, ⟨rR vH.1⟩, ⟨rB a3.1⟩, ⟨GH⟩⟩
        ·have H' := am H
         repeat clear H
         obtain ⟨vK, zS, AB, CL, CR, CS, p2, z8, z9, yX, GM, yY, GN, M8, GI⟩ := aT56 dO HB mL
         cases CS
         go_wp2_with (first | ((with_reducible refine gD 7 ?_); refine bX 7 #[.string (⟨#[]⟩ : ByteArray), .slice none 0 0, .slice none 0 0] 56 ?_; intro uH hg lp hbox hb; replace lO := RB DQ hb; have gL := am hbox; have JM := am (GG : w.heap.size ≤ uH); have R9 := JM; replace HB := bS dS hb; have qL := nL aQ hg; have x6 := nG aQ hg; replace a3 := bB aQ hb; clear hb hbox hg; have Z44 := nZ1 x6 qL; have pw := cz3 gL; obtain ⟨Yb, Lj, cr⟩ := Kd.bN lO.1; subst cr) | ((with_reducible refine mU (f := 81) rfl ?_); refine wE (some 31) rfl rfl Try.func81 (by kernel_rfl) rfl #[.slice Yb tK.length Lj, .string ((aC aI mL).f0)] rfl FO ?_; (with_reducible refine (bA.calls k2 _ _ tK ((aC aI mL).f0) false _ ?side1 ?side2 YV.out).mono ?_); (case side1 => refine (Kd.aT (e := 9) (base := w.heap.size) (ok := fun k_ => True) (n := tK.length) (c := Lj) ?_).2.2; exact Ps); (case side2 => exact (Kd.aT lO.1).2.1); rintro e w' ⟨rfl, ⟨nd, rfl⟩⟩; refine ⟨_, rfl, ?_⟩; have Z47 := cz2 a3) | (go_at_call 85; (with_reducible refine (bO.calls k2 _ _ aY _ _ aI mL _ _ tK false _ ?side1 ?side2 ?side3 ?side4 ?side5 ?side6 js.out).mono ?_); (case side1 => exact Kd.bK eQ.1 GH); (case side2 => exact eP.1); (case side3 => exact Kd.bK dO.1 GH); (case side4 => exact fP.1); (case side5 => refine (Kd.aT (e := 9) (base := w.heap.size) (ok := fun k_ => True) (n := tK.length) (c := Lj) ?_).2.2; exact Ps); (case side6 => exact (Kd.aT lO.1).2.1); rintro e w48 ⟨rfl, hb⟩; replace lO := RB Ps hb; replace a3 := am (dL (g := aJ) (o := .cells #[.slice eL aY.length eO, .slice (some vK) aI.length eJ] 31 (0, 0)) pY4 hb); replace gL := am (dL (g := uH) (o := .cells #[.string ((aC aI mL).f0), .slice zS ((aC aI mL).f1).length AB, .slice CL ((aC aI mL).f2).length CR] 56 (0, 0)) pY2 hb); replace HB := bS GH hb; clear hb))
         go_roundg k2
         case measure => have := HK1.out; have := HK2.out; omega
         case rel => exact ⟨(tK), (wrap64 (mL + 1)), dH, H', ⟨by have := HK1.out; have := HK2.out; omega⟩, ⟨rR lO.1⟩, ⟨rB a3.1⟩, ⟨GH⟩⟩
      ·by_cases ZY : (tK.length : Int) = (mI.length : Int)
       ·rw [if_pos ZY] at H
        have XC : ((tK.length : Int) == (mI.length : Int)) = true := beq_iff_eq.mpr ZY
        have Ds : ((tK.length : Int) != (mI.length : Int)) = false := bne_eq_false_iff_eq.mpr ZY
        have re : (tK.length == mI.length) = true := by first | simpa using ZY | (simp at ZY ⊢; omega)
        clear ZY
        obtain ⟨rfl, rfl⟩ := sZ2 H
        repeat clear H
        obtain ⟨aL6, aN3, a7V⟩ := Kd.bN lO.1
        subst a7V
        go_wp2
        go_ret2
        exact ⟨_, eR, by first | exact Kd.vJ _ _ _ _ _ | exact Kd.zV _ _ _ _ _ | exact Kd.zZ _ _ _ _ _ | exact Kd.zW _ _ _ _ _ | exact Kd.zY _ _ _ _ _, dS⟩
       ·rw [if_neg ZY] at H
        have XC : ((tK.length : Int) == (mI.length : Int)) = false := beq_eq_false_iff_ne.mpr ZY
        have Ds : ((tK.length : Int) != (mI.length : Int)) = true := bne_iff_ne.mpr ZY
        have re : (tK.length == mI.length) = false := by first | simpa using ZY | (simp at ZY ⊢; omega)
        have H' := am H
        repeat clear H
        obtain ⟨mg, sc, Rz⟩ := Kd.bN lO.1
        subst Rz
        go_wp2
        go_roundg k2
        case measure => have := HK1.out; have := HK2.out; omega
        case rel => exact ⟨(tK), H', ⟨by have := HK1.out; have := HK2.out; omega⟩, ⟨rR lO.1⟩, ⟨rB a3.1⟩, ⟨dS⟩⟩
   ·rw [if_neg c9] at H
    have LY : decide ((mI.length : Int) < (aI.length : Int)) = false := decide_eq_false c9
    have Lh : decide (mI.length < aI.length) = false := decide_eq_false (fun h => c9 (Int.ofNat_lt.mpr h))
    clear c9
    obtain ⟨rfl, rfl⟩ := sZ2 H
    repeat clear H
    obtain ⟨aL7, aN4, a7W⟩ := Kd.bN lO.1
    subst a7W
    have Z53 := cz2 a3
    go_wp2
    go_ret2
    exact ⟨_, eR, rR lO.1, dS⟩
 obtain ⟨rfl, rfl⟩ := sZ2 H
 repeat clear H
 go_enter Try.func45, Try.ntmps45
 go_wp2_with (first | ((with_reducible refine gD 1 ?_); refine bX 1 #[.slice eL aY.length eO, .slice fJ aI.length eJ] 31 ?_; intro aJ hg w54 hbox hb; have a3 := am hbox; have gH := am (u0 : w.heap.size ≤ aJ); have iE := gH; replace HB := bS eI hb; clear hb hbox hg; have Z55 := cz2 a3) | ((with_reducible refine gC 24 ?_); refine cQ (some 9) Try.func24 (aN.calls k _ _ aY _ _ aI false _ (pB eQ) eP.1 (pB dO) fP.1 A2.out) ?_; rintro w56 hb; replace a3 := bB aQ hb; replace HB := bS dS hb; clear hb))
 go_ret2
 exact ⟨_, eR, by first | exact Kd.vJ _ _ _ _ _ | exact Kd.zV _ _ _ _ _ | exact Kd.zZ _ _ _ _ _ | exact Kd.zW _ _ _ _ _ | exact Kd.zY _ _ _ _ _, dS⟩
end Go.Proofs.Ytaofjgnhapnndaa.Q
namespace Go.Proofs.Ytaofjgnhapnndaa.Q
open Go.RowKit Go.Proofs.YtaofjgnhapnndaaW.PrintWords Go.Proofs.YtaofjgnhapnndaaW.PrintLast Go.Proofs.YtaofjgnhapnndaaW.PrintMore
set_option linter.unusedVariables false
set_option linter.unusedSimpArgs false
def mK.f (k : Nat) (aY : List ByteArray) (aI : List (S56)) : Option (Bool) := (dU.f k aY aI).bind fun a => (some a.2)
theorem mK.calls (k : Nat) (eL : Option Addr) (eO : Nat) (aY : List ByteArray) (fJ : Option Addr) (eJ : Nat) (aI : List (S56)) (r : Bool) (w : World) (iQ : Kd.C Kd.string w eL aY.length aY) (iO : aY.length ≤ eO) (iH : Kd.C k56 w fJ aI.length aI) (iP : aI.length ≤ eJ) (h : mK.f k aY aI = some r) :
  Calls Try.prog 36 #[.agg #[.slice eL aY.length eO, .slice fJ aI.length eJ]] w fun e w' => e = .returned (.bool r) ∧ Below w.heap.size w w' := by
 have hu31 := Try.underlying31
 obtain ⟨eQ, eP⟩ := mZ2 iQ iO
 obtain ⟨dO, fP⟩ := mZ2 iH iP
 clear iQ iO iH iP
 have HB := am (Below.refl w.heap.size w)
 unfold mK.f at h
 have H := h
 clear h
 obtain ⟨⟨kQ, fI⟩, A2, H⟩ := bd H
 dsimp only at H
 obtain rfl := Option.some.inj H
 repeat clear H
 go_enter Try.func36, Try.ntmps36
 go_wp2_with (first | ((with_reducible refine gD 1 ?_); refine bX 1 #[.slice eL aY.length eO, .slice fJ aI.length eJ] 31 ?_; intro aJ hg w3 hbox hb; have a3 := am hbox; have gH := am (u0 : w.heap.size ≤ aJ); have iE := gH; replace HB := bS eI hb; clear hb hbox hg; have Z4 := cz2 a3) | ((with_reducible refine gC 45 ?_); refine cE (some 7) Try.func45 (dU.calls k _ _ aY _ _ aI kQ fI _ (pB eQ) eP.1 (pB dO) fP.1 A2.out) ?_; rintro e w5 ⟨Hq, rfl, hD, hb⟩; refine ⟨_, rfl, ?_⟩; have mG := am (Kd.cO hD (aG dS)); replace a3 := bB aQ hb; replace HB := bS dS hb; clear hb hD))
 go_ret
 exact ⟨eR, dS⟩
def yR (P : Nat → Bool) (n i : Nat) : Option Nat := (List.range' i (n - i)).find? P
theorem M3 (P : Nat → Bool) (n : Nat) : yR P n n = none := by simp [yR]
theorem J7 (P : Nat → Bool) {n i : Nat} (h : i < n) : yR P n i = if P i = true then some i else yR P n (i + 1) := by
 unfold yR; rw [show n - i = (n - (i + 1)) + 1 by omega, List.range'_succ, List.find?_cons]
 cases P i <;> rfl
def canP (bs : List IB) (at_ : Nat) (gone : List ByteArray) (q : Nat) : Bool := decide (q = at_) || (hasS gone (gB bs q).f0 || !wO (gB bs q).f1 (gB bs at_).f2)
def canB (bs : List IB) (at_ : Nat) (gone : List ByteArray) : Bool := allR (canP bs at_ gone) bs.length 0
theorem IQ (ts : List ByteArray) (bs : List IB) (at_ : Nat) (gone : List ByteArray) (hl : bs.length ≤ 9223372036854775807) (hb : Bok bs) (ha : at_ < bs.length) (hg : gone.length ≤ 9223372036854775807) : Ev (fun k => iX.f k ts bs (at_ : Int) gone) (canB bs at_ gone) := by
 unfold iX.f
 have b0 := hb.at_ ha
 refine Ev.loop (f := fun k i => iX.l0 k (at_ : Int) gone (i : Int) ts bs) (val := allR (canP bs at_ gone) bs.length) bs.length ?_ ?_ 0 (by omega)
 ·rw [wC]
  refine Ev.step (fun k => iX.l0.eq_2 _ gone _ ts bs k) ?_
  exact Ev.neg (by omega) (Ev.ret rfl)
 intro i hi H
 rw [tX _ hi]
 refine Ev.step (fun k => iX.l0.eq_2 _ gone _ ts bs k) ?_
 refine Ev.pos (by omega) ?_
 rw [jB hi hl, jI, jI]
 have bi := hb.at_ hi
 refine Ev.prop (fun h => Ev.sub H (by simp [canP, show i = at_ by omega])) (fun h => Ev.pos (by omega) (Ev.bind (nP gone _ hg) ?_))
 have hne : decide (i = at_) = false := decide_eq_false (by omega)
 refine Ev.test _ (fun h1 => Ev.sub H (by simp [canP, h1])) (fun h1 => Ev.pos (by omega) (Ev.pos (by omega) (Ev.bind (yH _ _ bi.1 b0.2) ?_)))
 refine Ev.test _ (fun h2 => Ev.ret (by simp [canP, h1, h2, hne])) (fun h2 => Ev.sub H (by simp [canP, h2]))
theorem NA (ts : List ByteArray) (bs : List IB) (at_ : Nat) (gone : List ByteArray) (hl : bs.length ≤ 9223372036854775807) (ha : at_ < bs.length) (hg : gone.length ≤ 9223372036854775807) : Ev (fun k => bO.f k ts bs (at_ : Int) gone) (canB bs at_ gone) := by
 unfold bO.f
 refine Ev.loop (f := fun k i => bO.l0 k (at_ : Int) gone bs (bs.length : Int) (i : Int) ts bs) (val := allR (canP bs at_ gone) bs.length) bs.length ?_ ?_ 0 (by omega)
 ·rw [wC]
  refine Ev.step (fun k => bO.l0.eq_2 _ gone bs _ _ ts bs k) ?_
  exact Ev.neg (by omega) (Ev.ret rfl)
 intro i hi H
 rw [tX _ hi]
 refine Ev.step (fun k => bO.l0.eq_2 _ gone bs _ _ ts bs k) ?_
 refine Ev.pos (by omega) (Ev.pos (by omega) (Ev.pos (by omega) ?_))
 rw [jB hi hl, jI, jI]
 refine Ev.prop (fun h => Ev.sub H (by simp [canP, show i = at_ by omega])) (fun h => Ev.bind (xV gone _ hg) ?_)
 have hne : decide (i = at_) = false := decide_eq_false (by omega)
 refine Ev.test _ (fun h1 => Ev.sub H (by simp [canP, h1])) (fun h1 => Ev.pos (by omega) (Ev.pos (by omega) ?_))
 simp only [oJ.f, Option.bind_some]
 refine Ev.test _ (fun h2 => Ev.ret (by simp [canP, h1, hne, show wO (gB bs i).f1 (gB bs at_).f2 = true from h2])) (fun h2 => Ev.sub H (by simp [canP, show wO (gB bs i).f1 (gB bs at_).f2 = false from h2]))
theorem RZ {ts : List ByteArray} {bs : List IB} (h : uO ts bs = true) : bs.length ≤ 5 := by
 unfold uO at h; simp only [Bool.and_eq_true, decide_eq_true_eq] at h; exact h.2.1
def CB (bs : List IB) (gone : List ByteArray) (i : Nat) : Bool := !hasS gone (gB bs i).f0 && canB bs i gone
def KO (bs : List IB) (gone : List ByteArray) : Option Nat := yR (CB bs gone) bs.length 0
def nN (bs : List IB) : Nat → List ByteArray → List ByteArray × Bool
  | 0, gone => (gone, true)
  | d + 1, gone => match KO bs gone with
    | none => ([], false)
    | some i => nN bs d (gone ++ [(gB bs i).f0])
def sZ (ts : List ByteArray) (bs : List IB) : List ByteArray × Bool := if uO ts bs = true then nN bs bs.length [] else ([], false)
theorem G9 {P : Nat → Bool} {n i j : Nat} (h : yR P n i = some j) : i ≤ j ∧ j < n ∧ P j = true := by
 unfold yR at h
 have h1 := List.find?_some h
 have h2 := List.mem_of_find?_eq_some h
 rw [List.mem_range'_1] at h2
 exact ⟨by omega, by omega, h1⟩
theorem Q7 (ts : List ByteArray) (bs : List IB) (gone : List ByteArray) (hl : bs.length ≤ 9223372036854775807) (hb : Bok bs) (hg : gone.length ≤ 9223372036854775807) : Ev (fun k => jG.f k ts bs gone) (((KO bs gone).map fun (i : Nat) => (i : Int)).getD (-1)) := by
 unfold jG.f KO
 refine Ev.loop (f := fun k i => jG.l0 k gone (i : Int) ts bs) (val := fun i => ((yR (CB bs gone) bs.length i).map fun (i : Nat) => (i : Int)).getD (-1)) bs.length ?_ ?_ 0 (by omega)
 ·refine Ev.step (fun k => jG.l0.eq_2 gone _ ts bs k) (Ev.neg (by omega) (Ev.ret (by simp [M3])))
 intro i hi H
 simp only [J7 (CB bs gone) hi]
 refine Ev.step (fun k => jG.l0.eq_2 gone _ ts bs k) (Ev.pos (by omega) (Ev.pos (by omega) (Ev.bind (nP gone _ hg) ?_)))
 rw [jI, jB hi hl]
 refine Ev.test _ (fun h => Ev.sub H (by simp [CB, h])) (fun h => Ev.bind (IQ ts bs i gone hl hb hi hg) ?_)
 refine Ev.test _ (fun h2 => Ev.ret (by simp [CB, h, h2])) (fun h2 => Ev.sub H (by simp [CB, h2]))
theorem vC (ts : List ByteArray) (bs : List IB) (ht : ts.length ≤ 9223372036854775807) (hl : bs.length ≤ 9223372036854775807) (hb : Bok bs) : Ev (fun k => fC.f k ts bs) (sZ ts bs) := by
 unfold fC.f sZ
 simp only [Option.bind_some]
 refine Ev.bind (kG ts bs ht hl hb) (Ev.test _ (fun h => ?_) (fun h => Ev.ret (by simp [h])))
 have h5 := RZ h
 rw [if_pos h]
 have go : ∀ (d : Nat) (x : List ByteArray), x.length + d = bs.length → Ev (fun k => fC.l0 k x ts bs) (nN bs d x) := by
  intro d
  induction d with
  | zero =>
   intro x hx
   exact Ev.step (fun k => fC.l0.eq_2 x ts bs k) (Ev.neg (by omega) (Ev.ret rfl))
  | succ d ih =>
   intro x hx
   refine Ev.step (fun k => fC.l0.eq_2 x ts bs k) (Ev.pos (by omega) (Ev.bind (Q7 ts bs x hl hb (by omega)) ?_))
   unfold nN
   cases hn : KO bs x with
   | none => exact Ev.pos (by simp) (Ev.ret rfl)
   | some i =>
    have hi := (G9 hn).2.1
    simp only [Option.map_some, Option.getD_some]
    refine Ev.neg (by omega) (Ev.pos (by omega) (Ev.pos (by omega) (Ev.pos (by omega) ?_)))
    rw [jI]
    exact ih _ (by simp; omega)
 exact go bs.length [] (by simp)
theorem AU (ts : List ByteArray) (bs : List IB) (ht : ts.length ≤ 9223372036854775807) (hl : bs.length ≤ 9223372036854775807) (hb : Bok bs) : Ev (fun k => dU.f k ts bs) (sZ ts bs) := by
 unfold dU.f sZ
 refine Ev.bind (uJ ts bs ht hl hb) (Ev.test _ (fun h => ?_) (fun h => Ev.ret (by simp [h])))
 have h5 := RZ h
 rw [if_pos h]
 have go : ∀ (d : Nat) (x : List ByteArray), x.length + d = bs.length → Ev (fun k => dU.l0 k x ts bs) (nN bs d x) := by
   intro d
   induction d with
   | zero =>
     intro x hx
     exact Ev.step (fun k => dU.l0.eq_2 x ts bs k) (Ev.neg (by omega) (Ev.ret rfl))
   | succ d ih =>
     intro x hx
     refine Ev.step (fun k => dU.l0.eq_2 x ts bs k) (Ev.pos (by omega) ?_)
     unfold nN KO
     refine Ev.loop (f := fun k i => dU.l1 k x (x.length : Int) bs (bs.length : Int) (i : Int) ts bs)
       (val := fun i => match yR (CB bs x) bs.length i with | none => ([], false) | some i => nN bs d (x ++ [(gB bs i).f0])) bs.length ?_ ?_ 0 (by omega)
     · simp only [M3]
       exact Ev.step (fun k => dU.l1.eq_2 x _ bs _ _ ts bs k) (Ev.neg (by omega) (Ev.pos rfl (Ev.ret rfl)))
     · intro i hi H
       simp only [J7 (CB bs x) hi]
       refine Ev.step (fun k => dU.l1.eq_2 x _ bs _ _ ts bs k) (Ev.pos (by omega) (Ev.pos (by omega) (Ev.pos (by omega) (Ev.bind (xV x _ (by omega)) ?_))))
       rw [jI, jB hi hl]
       refine Ev.test _ (fun h1 => Ev.sub H (by simp [CB, h1])) (fun h1 => Ev.bind (NA ts bs i x hl hi (by omega)) ?_)
       refine Ev.test _ (fun h2 => Ev.pos (by omega) ?_) (fun h2 => Ev.sub H (by simp [CB, h2]))
       simp only [Option.bind_some]
       refine Ev.neg (by simp; omega) (Ev.sub (ih _ (by simp; omega)) (by simp [CB, h1, h2]))
 exact go bs.length [] (by simp)
def CG (ts : List ByteArray) (bs : List IB) : Bool := (sZ ts bs).2
theorem CJ (ts : List ByteArray) (bs : List IB) (ht : ts.length ≤ 9223372036854775807) (hl : bs.length ≤ 9223372036854775807) (hb : Bok bs) : Ev (fun k => lJ.f k ts bs) (CG ts bs) :=
  Ev.bind (vC ts bs ht hl hb) (Ev.ret rfl)
theorem C8 (ts : List ByteArray) (bs : List IB) (ht : ts.length ≤ 9223372036854775807) (hl : bs.length ≤ 9223372036854775807) (hb : Bok bs) : Ev (fun k => mK.f k ts bs) (CG ts bs) :=
  Ev.bind (AU ts bs ht hl hb) (Ev.ret rfl)
def idxI (p : ByteArray → Bool) (l : List IB) (i : Nat) : Int := ((yR (fun i => p (gB l i).f0) l.length i).map fun (i : Nat) => (i : Int)).getD (-1)
theorem XX (p : ByteArray → Bool) (l : List IB) : idxI p l l.length = -1 := by unfold idxI; rw [M3]; rfl
theorem SH (p : ByteArray → Bool) {l : List IB} {i : Nat} (h : i < l.length) : idxI p l i = if p (gB l i).f0 = true then (i : Int) else idxI p l (i + 1) := by
 unfold idxI; rw [J7 _ h]; cases p (gB l i).f0 <;> rfl
def oz (g : Nat) (lb : Array Value) (p : ByteArray → Bool) (w : World) : Prop :=
 ∀ (W : World) (s : ByteArray) (A1 : Option Addr) (n1 c1 : Nat) (A2 : Option Addr) (n2 c2 : Nat), Below w.heap.size w W → Calls Try.prog g (#[.agg #[.string s, .slice A1 n1 c1, .slice A2 n2 c2]] ++ lb) W fun e w' => e = .returned (.bool (p s)) ∧ Below w.heap.size w w'
set_option maxHeartbeats 2000000 in
theorem PW (g : Nat) (lb : Array Value) (eg : ∀ args w, (callFunc g args).run Try.prog w = .ok (.enter g args) w) (p : ByteArray → Bool) (A0 : Option Addr) (c0 : Nat) (l0 : List IB) (w : World)
  (r5 : Kd.C k56 w A0 l0.length l0) (hp : oz g lb p w) :
  Calls Try.prog 117 #[.slice A0 l0.length c0, .func (.func g) #[] lb] w fun e w' => e = .returned (.int .i64 (idxI p l0 0)) ∧ Below w.heap.size w w' := by
 have hbig := Cf r5
 have rD := am r5
 clear r5
 have HP := am hp
 clear hp
 have hu := Try.underlying56
 go_enter Try.func117, Try.ntmps117
 go_wp2
 go_loopg [5, 8] l0.length (fun gg _ s8 wr => ∃ kk : Nat, kk ≤ l0.length ∧ l0.length - kk ≤ gg ∧ s8 = .int .i64 kk ∧ aA (Below w.heap.size w wr) ∧ aA (idxI p l0 0 = idxI p l0 kk))
 case atStart => exact ⟨0, Nat.zero_le _, by omega, rfl, ⟨Below.refl _ w⟩, ⟨rfl⟩⟩
 obtain ⟨kk, hkk, hg, rfl, BW, A⟩ := hrel
 by_cases hlt : kk < l0.length
 ·have hltz : (kk : Int) < (l0.length : Int) := by omega
  have e1 := A.out
  rw [SH p hlt] at e1
  have E1 := am e1
  clear e1
  obtain ⟨ad, A1, c1, A2, c2, rfl, uz, va, fd, _, _, _, _⟩ := x9 rD.1 (kk : Int) (by omega) (by omega)
  have hcall := HP.out wr (gB l0 kk).f0 A1 (aC l0 (kk : Int)).f1.length c1 A2 (aC l0 (kk : Int)).f2.length c2 BW.out
  rw [← jI] at hcall E1
  rw [Int.toNat_natCast] at uz va fd
  replace uz := (BW.out.cell (World.block_lt_of_cell? w _ uz)).trans uz
  replace va := (BW.out.cell (World.block_lt_of_cell? w _ va)).trans va
  replace fd := (BW.out.cell (World.block_lt_of_cell? w _ fd)).trans fd
  generalize aC l0 (kk : Int) = y at uz va fd hcall E1
  obtain ⟨y0, y1, y2⟩ := y
  cases hq : p y0 with
  | true =>
   rw [hq] at hcall
   have E2 : aA (idxI p l0 0 = kk) := ⟨by rw [E1.out, if_pos hq]⟩
   clear hq
   go_wp2_with ((go_at_fn g; refine hcall.mono ?_; rintro e w' ⟨rfl, hb'⟩))
   go_ret
   exact ⟨by rw [E2.out]; rfl, hb'⟩
  | false =>
   rw [hq] at hcall
   have E2 : aA (idxI p l0 0 = idxI p l0 (kk + 1)) := ⟨by rw [E1.out, if_neg (by simp [hq])]⟩
   clear hq
   go_wp2_with ((go_at_fn g; refine hcall.mono ?_; rintro e w' ⟨rfl, hb'⟩))
   go_roundg (l0.length - (kk + 1))
   case measure => omega
   case rel => exact ⟨kk + 1, by omega, by omega, by go_num, ⟨hb'⟩, E2⟩
 have hltz : ¬ (kk : Int) < (l0.length : Int) := by omega
 have hk2 : kk = l0.length := by omega
 have E2 : aA (idxI p l0 0 = -1) := ⟨by rw [A.out, hk2, XX]⟩
 subst hk2
 go_wp2
 go_ret
 exact ⟨by rw [E2.out]; rfl, BW.out⟩
theorem Ri (s n : ByteArray) (A1 : Option Addr) (n1 c1 : Nat) (A2 : Option Addr) (n2 c2 : Nat) (gb : Nat) (W : World) (hg : gb < W.heap.size) (hcell : W.cell? ⟨gb, 0, none⟩ = some (.string n)) :
  Calls Try.prog 118 #[.agg #[.string s, .slice A1 n1 c1, .slice A2 n2 c2], .pointer (some ⟨gb, 0, none⟩)] W fun e w' => e = .returned (.bool (s.toList == n.toList)) ∧ Below W.heap.size W w' := by
 have hu := Try.underlying56
 have hne : gb ≠ W.heap.size := by omega
 go_enter Try.func118, Try.ntmps118
 go_wp2
 go_ret
 exact ⟨rfl, (Below.refl _ _).alloc (Nat.le_refl _) _⟩
def q8.f (aY : List ByteArray) (aI : List IB) (a1 : ByteArray) : Option (Int) := some (idxI (fun s => s.toList == a1.toList) aI 0)
theorem q8.calls (eL : Option Addr) (eO : Nat) (aY : List ByteArray) (fJ : Option Addr) (eJ : Nat) (aI : List IB) (a1 : ByteArray) (r : Int) (w : World) (iQ : Kd.C Kd.string w eL aY.length aY) (iO : aY.length ≤ eO) (iH : Kd.C k56 w fJ aI.length aI) (iP : aI.length ≤ eJ) (h : q8.f aY aI a1 = some r) :
  Calls Try.prog 84 #[.agg #[.slice eL aY.length eO, .slice fJ aI.length eJ], .string a1] w fun e w' => e = .returned (.int .i64 r) ∧ Below w.heap.size w w' := by
 obtain rfl := Option.some.inj h
 clear h
 have hu := Try.underlying31
 have HW : aA (Below w.heap.size w ((w.alloc (.cells #[.slice eL aY.length eO, .slice fJ aI.length eJ] 31 (0, 0))).alloc (.cells #[.string a1] 9 (0, 0)))) := ⟨((Below.refl _ _).alloc (Nat.le_refl _) _).alloc (by simp) _⟩
 have HC : aA (Calls Try.prog 117 #[.slice fJ aI.length eJ, .func (.func 118) #[] #[.pointer (some ⟨w.heap.size + 1, 0, none⟩)]] ((w.alloc (.cells #[.slice eL aY.length eO, .slice fJ aI.length eJ] 31 (0, 0))).alloc (.cells #[.string a1] 9 (0, 0))) fun e w' => e = .returned (.int .i64 (idxI (fun s => s.toList == a1.toList) aI 0)) ∧ Below ((w.alloc (.cells #[.slice eL aY.length eO, .slice fJ aI.length eJ] 31 (0, 0))).alloc (.cells #[.string a1] 9 (0, 0))).heap.size ((w.alloc (.cells #[.slice eL aY.length eO, .slice fJ aI.length eJ] 31 (0, 0))).alloc (.cells #[.string a1] 9 (0, 0))) w') := by
  refine ⟨PW 118 _ (enters_of Try.func118 (by kernel_rfl) rfl) (fun s => s.toList == a1.toList) fJ eJ aI _ (Kd.bK iH HW.out) ?_⟩
  intro W s A1 n1 c1 A2 n2 c2 hb
  have hcell : W.cell? ⟨w.heap.size + 1, 0, none⟩ = some (.string a1) := by
   rw [hb.cell (p := ⟨w.heap.size + 1, 0, none⟩) (by simp)]
   simp
  exact (Ri s a1 A1 n1 c1 A2 n2 c2 (w.heap.size + 1) W (Nat.lt_of_lt_of_le (by simp) hb.size) hcell).mono fun e w' ⟨he, hd⟩ => ⟨he, xB hb hb.size hd⟩
 generalize idxI (fun s => s.toList == a1.toList) aI 0 = b at HC
 clear iQ iO iH iP
 go_enter Try.func84, Try.ntmps84
 go_wp2_with ((go_at_call 117; refine HC.out.mono ?_; rintro e w' ⟨rfl, hb'⟩))
 go_ret
 exact ⟨rfl, xB HW.out HW.out.size hb'⟩
mutual
def bQ.j0 : Nat → List ByteArray → Bool → List ByteArray → List (S56) → Option (Bool)
 | 0, _, _, _, _ => none
 | k + 1, a, b, c, d => if b = true then (some false) else (bQ.l0 k a a (a.length : Int) 0 c d)
def bQ.l0 : Nat → List ByteArray → List ByteArray → Int → Int → List ByteArray → List (S56) → Option (Bool)
 | 0, _, _, _, _, _, _ => none
 | k + 1, b, c, g, a, d, e => if a < g then (if 0 ≤ a then (if a < (c.length : Int) then ((q8.f d e (rdOf ByteArray.empty c a)).bind fun h => (if h < 0 then (some false) else (if a ≤ (b.length : Int) then ((bA.f k (b.take (a : Int).toNat) (rdOf ByteArray.empty c a)).bind fun i => (if i = true then (some false) else ((bO.f k d e h (b.take (a : Int).toNat)).bind fun j => (if j = true then (bQ.l0 k b c g (wrap64 (a + 1)) d e) else (some false))))) else (none)))) else (none)) else (none)) else (some true)
end
def bQ.f (k : Nat) (aY : List ByteArray) (aI : List (S56)) (l1 : List ByteArray) : Option (Bool) := (aN.f k aY aI).bind fun a => (if a = true then (bQ.j0 k l1 ((l1.length : Int) != (aI.length : Int)) aY aI) else (bQ.j0 k l1 true aY aI))
def bQ.T7 : Bool × List (List Nat × List Nat) := (true, [([], []), ([0], [0]), ([1], [1]), ([2], [2]), ([2], [2]), ([3, 4, 2], [2, 3, 4]), ([2], [2]), ([5, 6, 2, 2], [2, 5, 6]), ([2, 7], [2, 7]), ([8, 7], [8]), ([9], [9]), ([9], [9]), ([9], [9]), ([9], [9]), ([12, 13, 9], [9, 12, 13]), ([10, 11, 14, 9, 9], [9, 10, 11, 14]), ([15, 9], [9, 15]), ([9, 16], [9, 16])])
def bQ.B7 : List Nat := [0, 1, 3, 7, 7, 31, 7, 127, 255, 511, 1023, 1023, 1023, 1023, 13311, 32767, 65535, 131071]
theorem bQ.tab7 : rtab .any (opsOf Try.f33 7) = bQ.T7 := by kernel_rfl
theorem bQ.uG : kM bQ.T7.2 bQ.B7 = true := by kernel_rfl
theorem bQ.calls (k : Nat) (eL : Option Addr) (eO : Nat) (aY : List ByteArray) (fJ : Option Addr) (eJ : Nat) (aI : List (S56)) (A1 : Option Addr) (c1 : Nat) (l1 : List ByteArray) (r : Bool) (w : World) (iQ : Kd.C Kd.string w eL aY.length aY) (iO : aY.length ≤ eO) (iH : Kd.C k56 w fJ aI.length aI) (iP : aI.length ≤ eJ) (BF : Kd.C Kd.string w A1 l1.length l1) (DK : l1.length ≤ c1) (h : bQ.f k aY aI l1 = some r) :
  Calls Try.prog 33 #[.agg #[.slice eL aY.length eO, .slice fJ aI.length eJ], .slice A1 l1.length c1] w fun e w' => e = .returned (.bool r) ∧ Below w.heap.size w w' := by
 have hu31 := Try.underlying31
 obtain ⟨eQ, eP⟩ := mZ2 iQ iO
 obtain ⟨dO, fP⟩ := mZ2 iH iP
 obtain ⟨tO, zK⟩ := mZ2 BF DK
 clear iQ iO iH iP BF DK
 have HB := am (Below.refl w.heap.size w)
 unfold bQ.f at h
 have H := h
 clear h
 have ZD := am H
 clear H
 go_enter Try.func33, Try.ntmps33
 go_upto_region 1 with (first | ((with_reducible refine gD 2 ?_); (try (refine nE (by rfl) ?_; dsimp only)); refine bX 2 #[.slice eL aY.length eO, .slice fJ aI.length eJ] 31 ?_; intro aJ hg w4 hbox hb; have a3 := am hbox; have gH := am (u0 : w.heap.size ≤ aJ); have iE := gH; replace HB := bS eI hb; clear hb hbox hg))
 (try simp only [Act.put, List.setIfInBounds_toArray, List.set_cons_zero, List.set_cons_succ])
 go_cut [18] (fun v18 wc => ∃ (kq : Nat) (Pb : Bool), v18 = .bool Pb ∧ aA (bQ.j0 kq l1 Pb aY aI = some r) ∧ aA (kq ≤ k) ∧ aA (wc.heap[aJ]? = some (.cells #[(.slice eL aY.length eO), (.slice fJ aI.length eJ)] 31 (0, 0))) ∧ aA (Below w.heap.size w wc))
 case first =>
  have H := ZD.1
  clear ZD
  obtain ⟨kQ, A5, H⟩ := bd H
  refine tC H ?_ ?_ <;> clear H <;> intro c6 H <;> subst c6
  ·have H' := am H
   repeat clear H
   have Z7 := cz2 a3
   go_wp2_with (first | ((with_reducible refine gC 24 ?_); refine cQ (some 9) Try.func24 (aN.calls k _ _ aY _ _ aI true _ (pB eQ) eP.1 (pB dO) fP.1 A5.out) ?_; rintro w8 hb; replace a3 := bB aQ hb; replace HB := bS dS hb; clear hb; have Z9 := cz2 a3))
   go_meet
   exact ⟨_, (((l1.length : Int) != (aI.length : Int))), dH, H', ⟨by first | omega | exact Nat.le_refl _⟩, ⟨rB a3.1⟩, ⟨dS⟩⟩
  have H' := am H
  repeat clear H
  have Z10 := cz2 a3
  go_wp2_with (first | ((with_reducible refine gC 24 ?_); refine cQ (some 9) Try.func24 (aN.calls k _ _ aY _ _ aI false _ (pB eQ) eP.1 (pB dO) fP.1 A5.out) ?_; rintro wm hb; replace a3 := bB aQ hb; replace HB := bS dS hb; clear hb))
  go_meet
  exact ⟨_, (true), dH, H', ⟨by first | omega | exact Nat.le_refl _⟩, ⟨rB a3.1⟩, ⟨dS⟩⟩
 clear ZD
 try clear c1
 obtain ⟨kq, Pb, rfl, HA, HJ2, a3, HB⟩ := hcut
 cases kq with
 | zero => exact absurd HA.out (by simp [bQ.j0])
 | succ kj2 =>
  have H := HA.out
  clear HA
  simp only [bQ.j0] at H
  refine tC H ?_ ?_ <;> (repeat clear H) <;> intro Rk H <;> subst Rk
  ·obtain rfl := Option.some.inj H
   repeat clear H
   go_wp2
   go_ret
   exact ⟨eR, dS⟩
  ·have H' := am H
   repeat clear H
   go_wp2
   go_loopg [21] kj2 (fun kq v21 w' => ∃ (kV : Int), v21 = .int .i64 kV ∧ aA (bQ.l0 kq l1 l1 (l1.length : Int) kV aY aI = some r) ∧ aA (kq ≤ kj2) ∧ aA (w'.heap[aJ]? = some (.cells #[(.slice eL aY.length eO), (.slice fJ aI.length eJ)] 31 (0, 0))) ∧ aA (Below w.heap.size w w'))
   case atStart => exact ⟨(0), dH, H', ⟨Nat.le_refl _⟩, ⟨rB a3.1⟩, ⟨dS⟩⟩
   case round =>
    clear H'
    try clear c1
    try clear Rk
    obtain ⟨kV, rfl, HA, HK2, a3, HB⟩ := hrel
    cases gk with
    | zero => exact absurd HA.out (by simp [bQ.l0])
    | succ k2 =>
     have H := HA.out
     clear HA
     simp only [bQ.l0] at H
     refine ic H ?_ ?_ <;> clear H <;> intro MV H
     obtain ⟨S0, H⟩ := cN H
     obtain ⟨X8, H⟩ := cN H
     obtain ⟨dI, YW, H⟩ := bd H
     refine ic H ?_ ?_ <;> clear H <;> intro La H
     obtain rfl := Option.some.inj H
     repeat clear H
     obtain ⟨e4, oG, j5, uK, uL⟩ := aS tO HB kV
     cases oG
     have yg := cz2 a3
     have Jk := trivial
     rotate_left
     have Vv := eq_true (oT : 0 ≤ kV)
     obtain ⟨Vw, aEU, H⟩ := cP H
     obtain ⟨fO, WP, H⟩ := bd H
     refine tC H ?_ ?_ <;> clear H <;> intro X9 H <;> subst X9
     obtain rfl := Option.some.inj H
     repeat clear H
     obtain ⟨e4, oG, j5, uK, uL⟩ := aS tO HB kV
     cases oG
     have Z25 := cz2 a3
     have Jk := trivial
     rotate_left
     have Dr := eq_true (oT : 0 ≤ kV)
     have MX := eq_true (oT : kV ≤ (l1.length : Int))
     obtain ⟨fW, xg, H⟩ := bd H
     refine tC H ?_ ?_ <;> clear H <;> intro c32 H <;> subst c32
     have H' := am H
     repeat clear H
     obtain ⟨e4, oG, j5, uK, uL⟩ := aS tO HB kV
     cases oG
     have yj := cz2 a3
     have Jk := trivial
     rotate_left
     obtain rfl := Option.some.inj H
     repeat clear H
     obtain ⟨e4, oG, j5, uK, uL⟩ := aS tO HB kV
     cases oG
     have Z39 := cz2 a3
     have Jk := trivial
     rotate_left
     obtain rfl := Option.some.inj H
     repeat clear H
     rotate_left
     all_goals
      try go_wp2_with (first | ((with_reducible refine gC 84 ?_); revert Jk; intro Jk; refine cQ (some 28) Try.func84 (q8.calls _ _ aY _ _ aI (rdOf ByteArray.empty l1 kV) dI _ (pB eQ) eP.1 (pB dO) fP.1 YW.out) ?_; rintro Fs hb; replace a3 := bB aQ hb; replace HB := bS dS hb; clear hb))
     ·replace a3 := BD a3
      replace HB := am (aV HB.1)
      refine sT (S := fun w' => True) [] 18 ⟨trivial⟩ (fun hHeld => ?_)
      refine dZ bQ.tab7 bQ.uG (fun HT_ HW_ => ?_)
      generalize Fs.drew = Hw at a3 HB hHeld ⊢
      refine pU3 0 1 2 ?_
      refine pV5 3 4 5 6 7 ?_
      refine pU2 8 9 ?_
      refine pV7 10 11 12 13 14 15 16 ?_
      refine pU1 17 ?_
      refine dN ?_
      try go_wp2
      go_ret
      exact ⟨eR, dS⟩
     ·replace a3 := BD a3
      replace HB := am (aV HB.1)
      obtain ⟨i028, Ww, _, hsz28, _⟩ := info_parts jT
      obtain ⟨hcut28, hA28, hC28⟩ := kD (P := Try.prog) Value.string (⟨#[]⟩ : ByteArray) 23 9 .i64 Try.underlying23 Ww hsz28 (some e4) c1 l1 kV (oT) (oT) zK.1
      have xT := am (Kd.kI (h1 := fun _ => rfl) (hA28 _ (Kd.kK tO.1)))
      have FT := am hC28
      clear hA28 hC28 Ww hsz28
      refine sT (S := fun w' => True) [] 18 ⟨trivial⟩ (fun hHeld => ?_)
      refine dZ bQ.tab7 bQ.uG (fun HT_ HW_ => ?_)
      generalize Fs.drew = YM at a3 HB xT hHeld ⊢
      refine pU7 0 1 2 3 4 5 6 ?_
      refine oN 7 (some 36) fun K hK => ?_
      refine wF Try.func81 (by kernel_rfl) rfl #[.slice (some e4) (l1.take (kV : Int).toNat).length c1, .string (rdOf ByteArray.empty l1 kV)] (by rfl) rfl rfl (by (try simp only [List.map_toArray, List.map_cons, List.map_nil]); first | done | (rw [show (l1.take (kV : Int).toNat).length = kV.toNat from (by rw [List.length_take]; have h_ : (kV : Int) ≤ (l1.length : Int) := oT; omega)] <;> rfl) | rfl | (simp only [List.length_drop, List.length_take]; rfl)) ?_
      with_reducible refine (bA.calls k2 _ _ (l1.take (kV : Int).toNat) (rdOf ByteArray.empty l1 kV) true _ ?side1 ?side2 WP.out).mono ?_
      (case side1 => exact pC (Kd.bK xT.1 HB.1))
      (case side2 => exact FT.1)
      rintro e w' ⟨rfl, ⟨nd, rfl⟩⟩
      refine ⟨_, rfl, ?_⟩
      refine hK.out _ _ trivial (fun hHeld => ?_)
      clear hK K
      refine nM ?_
      refine pU2 8 9 ?_
      refine pV7 10 11 12 13 14 15 16 ?_
      refine pU1 17 ?_
      refine dN ?_
      try go_wp2
      go_ret
      exact ⟨eR, dS⟩
     ·replace a3 := BD a3
      replace HB := am (aV HB.1)
      obtain ⟨i036, XR, _, hsz36, _⟩ := info_parts jT
      obtain ⟨hcut36, hA36, hC36⟩ := kD (P := Try.prog) Value.string (⟨#[]⟩ : ByteArray) 23 9 .i64 Try.underlying23 XR hsz36 (some e4) c1 l1 kV (oT) (oT) zK.1
      have xT := am (Kd.kI (h1 := fun _ => rfl) (hA36 _ (Kd.kK tO.1)))
      have FT := am hC36
      clear hA36 hC36 XR hsz36
      refine sT [] 18 (uA2 a3) (fun hHeld => ?_)
      refine dZ bQ.tab7 bQ.uG (fun HT_ HW_ => ?_)
      generalize Fs.drew = jj at a3 HB xT hHeld ⊢
      refine pU7 0 1 2 3 4 5 6 ?_
      refine oN 7 (some 36) fun K hK => ?_
      refine wF Try.func81 (by kernel_rfl) rfl #[.slice (some e4) (l1.take (kV : Int).toNat).length c1, .string (rdOf ByteArray.empty l1 kV)] (by rfl) rfl rfl (by (try simp only [List.map_toArray, List.map_cons, List.map_nil]); first | done | (rw [show (l1.take (kV : Int).toNat).length = kV.toNat from (by rw [List.length_take]; have h_ : (kV : Int) ≤ (l1.length : Int) := oT; omega)] <;> rfl) | rfl | (simp only [List.length_drop, List.length_take]; rfl)) ?_
      with_reducible refine (bA.calls k2 _ _ (l1.take (kV : Int).toNat) (rdOf ByteArray.empty l1 kV) false _ ?side1 ?side2 WP.out).mono ?_
      (case side1 => exact pC (Kd.bK xT.1 HB.1))
      (case side2 => exact FT.1)
      rintro e w' ⟨rfl, ⟨nd, rfl⟩⟩
      refine ⟨_, rfl, ?_⟩
      obtain ⟨i037, Wy, _, hsz37, _⟩ := info_parts jT
      obtain ⟨hcut37, hA37, hC37⟩ := kD (P := Try.prog) Value.string (⟨#[]⟩ : ByteArray) 23 9 .i64 Try.underlying23 Wy hsz37 (some e4) c1 l1 kV (oT) (oT) zK.1
      have Iq := am (Kd.kI (h1 := fun _ => rfl) (hA37 _ (Kd.kK tO.1)))
      have Il := am hC37
      clear hA37 hC37 Wy hsz37
      refine nK hK (uA2 a3).1 fun hHeld => ?_
      clear hK K
      refine pU6 8 9 11 12 13 14 ?_
      refine tK2 10 (some 39) ?_
      refine oN 15 (some 44) fun K hK => ?_
      refine wF Try.func85 (by kernel_rfl) rfl #[.agg #[.slice eL aY.length eO, .slice fJ aI.length eJ], .int .i64 dI, .slice (some e4) (l1.take (kV : Int).toNat).length c1] (by rfl) rfl rfl (by (try simp only [List.map_toArray, List.map_cons, List.map_nil]); first | done | (rw [show (l1.take (kV : Int).toNat).length = kV.toNat from (by rw [List.length_take]; have h_ : (kV : Int) ≤ (l1.length : Int) := oT; omega)] <;> rfl) | rfl | (simp only [List.length_drop, List.length_take]; rfl)) ?_
      with_reducible refine (bO.calls k2 _ _ aY _ _ aI dI _ _ (l1.take (kV : Int).toNat) true _ ?side1 ?side2 ?side3 ?side4 ?side5 ?side6 xg.out).mono ?_
      (case side1 => exact pC (Kd.bK eQ.1 dS))
      (case side2 => exact eP.1)
      (case side3 => exact pC (Kd.bK dO.1 dS))
      (case side4 => exact fP.1)
      (case side5 => exact pC (Kd.bK Iq.1 dS))
      (case side6 => exact Il.1)
      rintro e Hx ⟨rfl, hb⟩
      refine ⟨_, rfl, ?_⟩
      replace a3 := bB aQ hb
      replace HB := bS dS hb
      clear hb
      refine nK hK (uA2 a3).1 fun hHeld => ?_
      clear hK K
      refine pU2 16 17 ?_
      refine dN ?_
      try go_wp2
      go_roundg k2
      case measure => have := HJ2.out; have := HK2.out; omega
      case rel => exact ⟨(wrap64 (kV + 1)), dH, H', ⟨by have := HJ2.out; have := HK2.out; omega⟩, ⟨rB a3.1⟩, ⟨dS⟩⟩
     ·replace a3 := BD a3
      replace HB := am (aV HB.1)
      obtain ⟨i042, XS, _, hsz42, _⟩ := info_parts jT
      obtain ⟨hcut42, hA42, hC42⟩ := kD (P := Try.prog) Value.string (⟨#[]⟩ : ByteArray) 23 9 .i64 Try.underlying23 XS hsz42 (some e4) c1 l1 kV (oT) (oT) zK.1
      have xT := am (Kd.kI (h1 := fun _ => rfl) (hA42 _ (Kd.kK tO.1)))
      have FT := am hC42
      clear hA42 hC42 XS hsz42
      refine sT [] 18 (uA2 a3) (fun hHeld => ?_)
      refine dZ bQ.tab7 bQ.uG (fun HT_ HW_ => ?_)
      generalize Fs.drew = jk at a3 HB xT hHeld ⊢
      refine pU7 0 1 2 3 4 5 6 ?_
      refine oN 7 (some 36) fun K hK => ?_
      refine wF Try.func81 (by kernel_rfl) rfl #[.slice (some e4) (l1.take (kV : Int).toNat).length c1, .string (rdOf ByteArray.empty l1 kV)] (by rfl) rfl rfl (by (try simp only [List.map_toArray, List.map_cons, List.map_nil]); first | done | (rw [show (l1.take (kV : Int).toNat).length = kV.toNat from (by rw [List.length_take]; have h_ : (kV : Int) ≤ (l1.length : Int) := oT; omega)] <;> rfl) | rfl | (simp only [List.length_drop, List.length_take]; rfl)) ?_
      with_reducible refine (bA.calls k2 _ _ (l1.take (kV : Int).toNat) (rdOf ByteArray.empty l1 kV) false _ ?side1 ?side2 WP.out).mono ?_
      (case side1 => exact pC (Kd.bK xT.1 HB.1))
      (case side2 => exact FT.1)
      rintro e w' ⟨rfl, ⟨nd, rfl⟩⟩
      refine ⟨_, rfl, ?_⟩
      obtain ⟨i043, Xc, _, hsz43, _⟩ := info_parts jT
      obtain ⟨hcut43, hA43, hC43⟩ := kD (P := Try.prog) Value.string (⟨#[]⟩ : ByteArray) 23 9 .i64 Try.underlying23 Xc hsz43 (some e4) c1 l1 kV (oT) (oT) zK.1
      have Iq := am (Kd.kI (h1 := fun _ => rfl) (hA43 _ (Kd.kK tO.1)))
      have Il := am hC43
      clear hA43 hC43 Xc hsz43
      refine nK hK (uA2 a3).1 fun hHeld => ?_
      clear hK K
      refine pU6 8 9 11 12 13 14 ?_
      refine tK2 10 (some 39) ?_
      refine oN 15 (some 44) fun K hK => ?_
      refine wF Try.func85 (by kernel_rfl) rfl #[.agg #[.slice eL aY.length eO, .slice fJ aI.length eJ], .int .i64 dI, .slice (some e4) (l1.take (kV : Int).toNat).length c1] (by rfl) rfl rfl (by (try simp only [List.map_toArray, List.map_cons, List.map_nil]); first | done | (rw [show (l1.take (kV : Int).toNat).length = kV.toNat from (by rw [List.length_take]; have h_ : (kV : Int) ≤ (l1.length : Int) := oT; omega)] <;> rfl) | rfl | (simp only [List.length_drop, List.length_take]; rfl)) ?_
      with_reducible refine (bO.calls k2 _ _ aY _ _ aI dI _ _ (l1.take (kV : Int).toNat) false _ ?side1 ?side2 ?side3 ?side4 ?side5 ?side6 xg.out).mono ?_
      (case side1 => exact pC (Kd.bK eQ.1 dS))
      (case side2 => exact eP.1)
      (case side3 => exact pC (Kd.bK dO.1 dS))
      (case side4 => exact fP.1)
      (case side5 => exact pC (Kd.bK Iq.1 dS))
      (case side6 => exact Il.1)
      rintro e lq ⟨rfl, hb⟩
      refine ⟨_, rfl, ?_⟩
      replace a3 := bB aQ hb
      replace HB := bS dS hb
      clear hb
      refine nK hK (uA2 a3).1 fun hHeld => ?_
      clear hK K
      refine pU2 16 17 ?_
      refine dN ?_
      try go_wp2
      go_ret
      exact ⟨eR, dS⟩
     ·go_ret
      exact ⟨eR, dS⟩
end Go.Proofs.Ytaofjgnhapnndaa.Q
namespace Go.Proofs.Ytaofjgnhapnndaa.Q
open Go.RowKit Go.Proofs.YtaofjgnhapnndaaW.PrintWords Go.Proofs.YtaofjgnhapnndaaW.PrintLast Go.Proofs.YtaofjgnhapnndaaW.PrintMore
set_option linter.unusedVariables false
set_option linter.unusedSimpArgs false
def aD (w0 W : World) (g : Nat) (f0 : List Int) (f1 : Int) : Prop := ∃ A0 c0, W.heap[g]? = some (.cells #[.slice A0 f0.length c0, .int .i64 f1] 103 (0, 0)) ∧ w0.heap.size ≤ g ∧ Kd.C (Kd.int .u8) w0 A0 f0.length f0
theorem aD.grown {w0 W : World} {g : Nat} {f0 : List Int} {f1 : Int} {W1 : World} {row : Option Nat} (h : aD w0 W g f0 f1) (hw : W.grownBy W1 row) (hne : some g ≠ row) : aD w0 W1 g f0 f1 := by
 obtain ⟨A0, c0, hb, hg, r5⟩ := h
 exact ⟨A0, c0, vM hb hw hne, hg, r5⟩
theorem aD.Fh {w0 W : World} {g : Nat} {f0 : List Int} {f1 : Int} {α : Type} {d : Kd α} {e : Nat} {base : Nat} {ok : Nat → Prop} {v : Value} {xs : List α} (h : aD w0 W g f0 f1) (ho : Kd.N d e W base ok v xs) (ht : e ≠ 103) : some g ≠ v.ownBlock := by
 obtain ⟨A0, c0, hb, hg, r5⟩ := h
 exact Kd.N_ne ho hb ht
theorem aD.fresh {w0 W : World} {g : Nat} {f0 : List Int} {f1 : Int} (h : aD w0 W g f0 f1) : ∀ k, W.heap.size ≤ k → k ≠ g := by
 obtain ⟨A0, c0, hb, hg, r5⟩ := h
 exact Kd.AP hb
theorem aD.kept {w0 W : World} {g : Nat} {f0 : List Int} {f1 : Int} {W1 : World} {S : Nat → Prop} (h : aD w0 W g f0 f1) (hk : Kept W W1 S) (hne : ¬ S g) : aD w0 W1 g f0 f1 := by
 obtain ⟨A0, c0, hb, hg, r5⟩ := h
 exact ⟨A0, c0, PD hb hk hne, hg, r5⟩
theorem aD.below {w0 W : World} {g : Nat} {f0 : List Int} {f1 : Int} {W1 : World} (h : aD w0 W g f0 f1) (hw : Below W.heap.size W W1) : aD w0 W1 g f0 f1 := h.grown (GA hw none) (by simp)
theorem aD.alloc {w0 W : World} {g : Nat} {f0 : List Int} {f1 : Int} (h : aD w0 W g f0 f1) (o : Obj) : aD w0 (W.alloc o) g f0 f1 := h.below (cZ (Below.refl _ _) o)
theorem aD.drewN {w0 W : World} {g : Nat} {f0 : List Int} {f1 : Int} (h : aD w0 W g f0 f1) (m : Nat) : aD w0 (W.drewN m) g f0 f1 := h
theorem aD.drew {w0 W : World} {g : Nat} {f0 : List Int} {f1 : Int} (h : aD w0 W g f0 f1) : aD w0 W.drew g f0 f1 := h
theorem aD.at_ {w0 W : World} {g : Nat} {f0 : List Int} {f1 : Int} {w' : World} {m : Nat} (hq : W.drewN m = w') (h : aD w0 W g f0 f1) : aD w0 w' g f0 f1 := by subst hq; exact aD.drewN h m
theorem aD.apart {w0 W : World} {g : Nat} {f0 : List Int} {f1 : Int} {α : Type} {d : Kd α} {e : Nat} {base : Nat} {ok : Nat → Prop} {v : Value} {xs : List α} (h : aD w0 W g f0 f1) (ho : d.R e W base ok v xs) (ht : ∀ q, q ∈ e :: d.E → q ≠ 103) : d.R e W base (fun k => ok k ∧ k ≠ g) v xs := by
 obtain ⟨A0, c0, hb, hg, r5⟩ := h
 exact Kd.fK ho hb ht
theorem aD.own_ne {w0 W : World} {g : Nat} {f0 : List Int} {f1 : Int} {α : Type} {d : Kd α} {e : Nat} {base : Nat} {ok : Nat → Prop} {v : Value} {xs : List α} (h : aD w0 W g f0 f1) (ho : d.R e W base ok v xs) (ht : e ≠ 103) : some g ≠ v.ownBlock := by
 obtain ⟨A0, c0, hb, hg, r5⟩ := h
 exact Kd.R_ne ho hb ht
theorem aD.Km {w0 W : World} {g : Nat} {f0 : List Int} {f1 : Int} {α : Type} {d : Kd α} {e : Nat} {base : Nat} {ok : Nat → Prop} {v : Value} {xs : List α} (h : aD w0 W g f0 f1) (ho : d.S e W base ok v xs) (ht : ∀ q, q ∈ e :: d.E → q ≠ 103) : d.S e W base (fun k => ok k ∧ k ≠ g) v xs := by
 obtain ⟨A0, c0, hb, hg, r5⟩ := h
 exact Kd.O8 ho hb ht
theorem iR {w0 W w1 : World} {g : Nat} {f0 : List Int} {f1 : Int} {α : Type} {d : Kd α} {e base : Nat} {ok : Nat → Prop} {v : Value} {xs : List α} (h : aD w0 W g f0 f1) (ho : Kd.R d e W base ok v xs) (hk : aW W w1 g none) (ht : ∀ q, q ∈ e :: d.E → q ≠ 103 := by decide) : aA (Kd.R d e w1 base ok v xs) := ⟨Kd.aM (Kd.lQ (aD.apart h ho ht) hk (fun _ h => h.2)) (fun _ h => h.1)⟩
theorem iS {w0 W w1 : World} {g : Nat} {f0 : List Int} {f1 : Int} {α : Type} {d : Kd α} {e base : Nat} {ok : Nat → Prop} {v : Value} {xs : List α} (h : aD w0 W g f0 f1) (ho : Kd.S d e W base ok v xs) (hk : aW W w1 g none) (ht : ∀ q, q ∈ e :: d.E → q ≠ 103 := by decide) : aA (Kd.S d e w1 base ok v xs) := ⟨Kd.CQ (Kd.Kg (aD.Km h ho ht) hk (fun _ h => h.2)) (fun _ h => h.1)⟩
theorem aD.zG {w0 W : World} {g : Nat} {f0 : List Int} {f1 : Int} {α : Type} {d : Kd α} {e : Nat} {base : Nat} {ok : Nat → Prop} {v : Value} {xs : List α} (h : aD w0 W g f0 f1) (ho : d.S e W base ok v xs) (ht : e ≠ 103) : some g ≠ v.ownBlock := by
 obtain ⟨A0, c0, hb, hg, r5⟩ := h
 exact Kd.S_ne ho hb ht
theorem aD.lt {w0 W : World} {g : Nat} {f0 : List Int} {f1 : Int} (h : aD w0 W g f0 f1) : g < W.heap.size := by
 obtain ⟨A0, c0, hb, hg, r5⟩ := h
 exact yB hb
theorem aD.ge {w0 W : World} {g : Nat} {f0 : List Int} {f1 : Int} (h : aD w0 W g f0 f1) : w0.heap.size ≤ g := by
 obtain ⟨A0, c0, hb, hg, r5⟩ := h
 exact hg
theorem aD.VS {w0 W : World} {g : Nat} {f0 : List Int} {f1 : Int} {a : Nat} {cs : Array Value} {t : TypeId} {fr : Nat × Nat} (h : aD w0 W g f0 f1) (hb2 : W.heap[a]? = some (.cells cs t fr)) (ht : t ≠ 103) : g ≠ a := by
 obtain ⟨A0, c0, hb, hg, r5⟩ := h
 rintro rfl
 rw [hb] at hb2
 injection hb2 with hb2
 injection hb2 with _ ht2
 exact ht ht2.symm
theorem aD.far {w0 W : World} {g : Nat} {f0 : List Int} {f1 : Int} {p : Addr} (h : aD w0 W g f0 f1) (hne : g ≠ p.block) (u : Value) : aD w0 (W.setCell p u) g f0 f1 := by
 obtain ⟨A0, c0, hb, hg, r5⟩ := h
 exact ⟨A0, c0, dY hb hne u, hg, r5⟩
theorem EP {W : World} {g : Nat} {A0 : Option Addr} {c0 : Nat} {f0 : List Int} {f1 : Int} (h : W.heap[g]? = some (.cells #[.slice A0 f0.length c0, .int .i64 f1] 103 (0, 0))) : W.cell? ⟨g, 0, none⟩ = some (.slice A0 f0.length c0) := (bF h 0).trans rfl
theorem EQ {W : World} {g : Nat} {A0 : Option Addr} {c0 : Nat} {f0 : List Int} {f1 : Int} (h : W.heap[g]? = some (.cells #[.slice A0 f0.length c0, .int .i64 f1] 103 (0, 0))) : W.cell? ⟨g, 1, none⟩ = some (.int .i64 f1) := (bF h 1).trans rfl
theorem aD.FN {w0 W : World} {g : Nat} {f0 : List Int} {f1 : Int} (h : aD w0 W g f0 f1) (x : Int) : aD w0 (W.setCell ⟨g, 1, none⟩ (.int .i64 x)) g f0 x := by
 obtain ⟨A0, c0, hb, hg, r5⟩ := h
 exact ⟨A0, c0, by simpa using U5 hb 1 (.int .i64 x), hg, r5⟩
def oK.f (l0 : List Int) : Option (List Int × Int) := if (l0.length : Int) > 2000 then (if 2000 ≤ (l0.length : Int) then (some (l0.take 2000, 0)) else (none)) else (some (l0, 0))
theorem oK.calls (A0 : Option Addr) (c0 : Nat) (l0 : List Int) (r1 : List Int) (r2 : Int) (w0 w : World) (hB : Below w0.heap.size w0 w) (r5 : Kd.C (Kd.int .u8) w0 A0 l0.length l0) (xK : l0.length ≤ c0) (h : oK.f l0 = some (r1, r2)) :
  Calls Try.prog 97 #[.slice A0 l0.length c0] w fun e w' => ∃ g_ : Nat, e = .returned (.pointer (some ⟨g_, 0, none⟩)) ∧ aD w0 w' g_ r1 r2 ∧ Below w0.heap.size w0 w' ∧ Below w.heap.size w w' := by
 have hu103 := Try.underlying103
 obtain ⟨rD, O0⟩ := mZ2 r5 xK
 clear r5 xK
 have HBW := am (Below.refl w.heap.size w)
 have HW0 := am hB.size
 have HB := am hB
 clear hB
 unfold oK.f at h
 have H := h
 clear h
 by_cases c2 : (l0.length : Int) > 2000
 ·rw [if_pos c2] at H
  have Rm : decide (2000 < (l0.length : Int)) = true := decide_eq_true c2
  have Rn : decide (2000 < l0.length) = true := decide_eq_true (by omega)
  clear c2
  obtain ⟨BG, UA, H⟩ := cP H
  obtain ⟨rfl, rfl⟩ := sZ2 H
  repeat clear H
  obtain ⟨i04, uf, _, hsz4, _⟩ := info_parts info5
  obtain ⟨hcut4, hA4, hC4⟩ := kD (P := Try.prog) (Value.int .u8) 0 51 5 .i64 Try.underlying51 uf hsz4 A0 c0 l0 2000 (by omega) (oT) O0.1
  have nh := am (Kd.kI (h1 := fun _ => rfl) (hA4 _ (Kd.kK rD.1)))
  have aBH := am hC4
  clear hA4 hC4 uf hsz4
  go_enter Try.func97, Try.ntmps97
  go_wp2_with (first | ((with_reducible refine gD 10 ?_); refine bX 10 #[.slice A0 (l0.take 2000).length c0, .int .i64 0] 103 ?_; intro aX hg w5 hbox hb; replace HB := bS eI hb; have aK := am hbox; have mP := am (by rw [hg]; exact (aG (by repeat (first | (with_reducible first | exact HBW.out | apply cZ | apply bR | apply aV) | exact HBW.out))) : w.heap.size ≤ aX); have nX := am (Nat.le_trans HW0.out (by rw [hg]; exact (aG (by repeat (first | (with_reducible first | exact HBW.out | apply cZ | apply bR | apply aV) | exact HBW.out))) : w.heap.size ≤ aX) : w0.heap.size ≤ aX); replace HBW := am (J5 HBW.out hb); clear hb hbox hg))
  go_ret
  exact ⟨_, rfl, (show aD w0 _ aX (l0.take 2000) 0 from ⟨_, _, rB aK.1, nX.1, nh.1⟩), by repeat (first | (with_reducible first | exact HB.1 | apply cZ | apply bR | apply aV | refine bI ?_ nX.1) | exact HB.1), by repeat (first | (with_reducible first | exact HBW.out | apply cZ | apply bR | apply aV | refine bI ?_ mP.out) | exact HBW.out)⟩
 rw [if_neg c2] at H
 have Rm : decide (2000 < (l0.length : Int)) = false := decide_eq_false c2
 have Rn : decide (2000 < l0.length) = false := decide_eq_false (by omega)
 clear c2
 obtain ⟨rfl, rfl⟩ := sZ2 H
 repeat clear H
 go_enter Try.func97, Try.ntmps97
 go_wp2_with (first | ((with_reducible refine gD 10 ?_); refine bX 10 #[.slice A0 l0.length c0, .int .i64 0] 103 ?_; intro sL hg w6 hbox hb; replace HB := bS eI hb; have jV := am hbox; have WU := am (by rw [hg]; exact (aG (by repeat (first | (with_reducible first | exact HBW.out | apply cZ | apply bR | apply aV) | exact HBW.out))) : w.heap.size ≤ sL); have I4 := am (Nat.le_trans HW0.out (by rw [hg]; exact (aG (by repeat (first | (with_reducible first | exact HBW.out | apply cZ | apply bR | apply aV) | exact HBW.out))) : w.heap.size ≤ sL) : w0.heap.size ≤ sL); replace HBW := am (J5 HBW.out hb); clear hb hbox hg))
 go_ret
 exact ⟨_, rfl, (show aD w0 _ sL l0 0 from ⟨_, _, rB jV.1, I4.1, rD.1⟩), by repeat (first | (with_reducible first | exact HB.1 | apply cZ | apply bR | apply aV | refine bI ?_ I4.1) | exact HB.1), by repeat (first | (with_reducible first | exact HBW.out | apply cZ | apply bR | apply aV | refine bI ?_ WU.out) | exact HBW.out)⟩
def bE.j0 : Nat → Int → Bool → List Int → Int → Option (Int × Int)
 | 0, _, _, _, _ => none
 | k + 1, c, d, a, b => if d = true then (some (0, b)) else (if (wrap64 (b - 1)) < (a.length : Int) then (if 0 ≤ (wrap64 (b - 1)) then (if c = 0 then (none) else (some (Int.tmod (wrap64 (rd a (wrap64 (b - 1)))) c, b))) else (none)) else (if (a.length : Int) = 0 then (none) else (if 0 ≤ (Int.tmod (wrap64 (b - 1)) (a.length : Int)) then (if (Int.tmod (wrap64 (b - 1)) (a.length : Int)) < (a.length : Int) then (if 0 ≤ (Int.tmod (wrap64 ((wrap64 ((wrap64 (b - 1)) * 7)) + 3)) (a.length : Int)) then (if (Int.tmod (wrap64 ((wrap64 ((wrap64 (b - 1)) * 7)) + 3)) (a.length : Int)) < (a.length : Int) then (if c = 0 then (none) else (some (Int.tmod (Go.bits .xor .i64 (wrap64 ((wrap64 ((wrap64 ((wrap64 ((wrap64 (rd a (Int.tmod (wrap64 (b - 1)) (a.length : Int)))) * 131)) + (wrap64 ((wrap64 (rd a (Int.tmod (wrap64 ((wrap64 ((wrap64 (b - 1)) * 7)) + 3)) (a.length : Int)))) * 1117)))) + (wrap64 ((wrap64 (b - 1)) * 29)))) + (wrap64 ((wrap64 (Int.tdiv (wrap64 (b - 1)) (a.length : Int))) * 53)))) (wrap64 (Int.tdiv (wrap64 ((wrap64 ((wrap64 ((wrap64 ((wrap64 (rd a (Int.tmod (wrap64 (b - 1)) (a.length : Int)))) * 131)) + (wrap64 ((wrap64 (rd a (Int.tmod (wrap64 ((wrap64 ((wrap64 (b - 1)) * 7)) + 3)) (a.length : Int)))) * 1117)))) + (wrap64 ((wrap64 (b - 1)) * 29)))) + (wrap64 ((wrap64 (Int.tdiv (wrap64 (b - 1)) (a.length : Int))) * 53)))) 64))) c, b))) else (none)) else (none)) else (none)) else (none))))
def bE.f (k : Nat) (d4 : List Int) (hG : Int) (a1 : Int) : Option (Int × Int) := if a1 < 1 then (bE.j0 k a1 true d4 (wrap64 (hG + 1))) else (bE.j0 k a1 ((d4.length : Int) == 0) d4 (wrap64 (hG + 1)))
theorem bE.calls (k : Nat) (g : Nat) (d4 : List Int) (hG : Int) (a1 : Int) (r1 : Int) (r2 : Int) (w0 w : World) (hI : aD w0 w g d4 hG) (hB : Below w0.heap.size w0 w) (h : bE.f k d4 hG a1 = some (r1, r2)) :
  Calls Try.prog 100 #[.pointer (some ⟨g, 0, none⟩), .int .i64 a1] w fun e w' => e = .returned (.int .i64 r1) ∧ aD w0 w' g d4 r2 ∧ Below w0.heap.size w0 w' ∧ aW w w' g none := by
 have gJ := am hI
 have HK := am (aW.refl w g none)
 have HL := am hB.size
 clear hI
 have HW0 := am hB.size
 have HB := am hB
 clear hB
 unfold bE.f at h
 have H := h
 clear h
 have ZD := am H
 clear H
 obtain ⟨ASz4_0, cSz4_0, HGz4, hgz4, HSz4_0⟩ := gJ.out
 have eq := EP HGz4
 have er := EQ HGz4
 have es := fV HGz4 1
 clear HGz4 hgz4
 go_enter Try.func100, Try.ntmps100
 go_upto_region 2 with ((fail))
 repeat (go_quiet (fail); go_upto_region 2 with (fail))
 go_cut [24] (fun v24 wc => ∃ (kq : Nat) (Fv : Bool), v24 = .bool Fv ∧ aA (bE.j0 kq a1 Fv d4 (wrap64 (hG + 1)) = some (r1, r2)) ∧ aA (kq ≤ k) ∧ aA (aD w0 wc g d4 (wrap64 (hG + 1))) ∧ aA (aW w wc g none) ∧ aA (Below w0.heap.size w0 wc))
 case first =>
  have H := ZD.1
  clear ZD
  by_cases c5 : a1 < 1
  ·rw [if_pos c5] at H
   have EO : decide (a1 < 1) = true := decide_eq_true c5
   clear c5
   (first | rw [EO] | (simp only [mV, pE]; rw [EO]) | skip)
   have H' := am H
   repeat clear H
   go_wp2
   repeat (go_quiet (fail); try go_wp2)
   go_meet
   exact ⟨_, (true), dH, H', ⟨by first | omega | exact Nat.le_refl _⟩, ⟨tH⟩, ⟨BK⟩, ⟨BJ⟩⟩
  rw [if_neg c5] at H
  have EO : decide (a1 < 1) = false := decide_eq_false c5
  clear c5
  (first | rw [EO] | (simp only [mV, pE]; rw [EO]) | skip)
  have H' := am H
  repeat clear H
  obtain ⟨ASz6_0, cSz6_0, HGz6, hgz6, HSz6_0⟩ := gJ.out
  have a8N := EP HGz6
  have a8O := EQ HGz6
  have a8T := fV HGz6 1
  clear HGz6 hgz6
  go_wp2
  repeat (go_quiet (fail); try go_wp2)
  go_meet
  exact ⟨_, (((d4.length : Int) == 0)), dH, H', ⟨by first | omega | exact Nat.le_refl _⟩, ⟨tH⟩, ⟨BK⟩, ⟨BJ⟩⟩
 clear ZD
 try clear eq er es
 obtain ⟨kq, Fv, rfl, HA, HJ2, gJ, HK, HB⟩ := hcut
 cases kq with
 | zero => exact absurd HA.out (by simp [bE.j0])
 | succ kj2 =>
  have H := HA.out
  clear HA
  simp only [bE.j0] at H
  by_cases c7 : Fv = true
  ·subst c7
   replace H := iT H
   obtain ⟨rfl, rfl⟩ := sZ2 H
   repeat clear H
   go_wp2
   repeat (go_quiet (fail); try go_wp2)
   go_ret
   exact ⟨eR, tH, BJ, BK⟩
  ·replace c7 := Bool.eq_false_iff.mpr c7
   subst c7
   replace H := iF H
   by_cases c8 : (wrap64 ((wrap64 (hG + 1)) - 1)) < (d4.length : Int)
   ·rw [if_pos c8] at H
    have HY : decide ((wrap64 ((wrap64 (hG + 1)) - 1)) < (d4.length : Int)) = true := decide_eq_true c8
    clear c8
    obtain ⟨ji9, hji9⟩ : ∃ j_ : Int, (wrap64 ((wrap64 (hG + 1)) - 1)) = j_ := ⟨_, rfl⟩
    replace H : (if 0 ≤ (ji9) then (if a1 = 0 then (none) else (some (Int.tmod (wrap64 (rd d4 (ji9))) a1, (wrap64 (hG + 1))))) else (none)) = some (r1, r2) := by first | (rw [hji9] at H; exact H) | (simp only [hji9] at H ⊢; exact H)
    (try rw [hji9] at HY)
    have hji9w : (IntKind.i64.wrap ((wrap64 (hG + 1)) - 1)) = ji9 := (mV _).trans hji9
    by_cases X7 : 0 ≤ (ji9)
    ·rw [if_pos X7] at H
     have IC : decide (0 ≤ (ji9)) = true := decide_eq_true X7
     clear X7
     by_cases Hv : a1 = 0
     ·rw [if_pos Hv] at H
      exact absurd H (by simp)
     ·rw [if_neg Hv] at H
      have ID : (a1 == 0) = false := beq_eq_false_iff_ne.mpr Hv
      have qr : (a1 != 0) = true := bne_iff_ne.mpr Hv
      obtain ⟨rfl, rfl⟩ := sZ2 H
      repeat clear H
      obtain ⟨ASz12_0, cSz12_0, HGz12, hgz12, HSz12_0⟩ := gJ.out
      have ym := EP HGz12
      have yn := EQ HGz12
      have zr := fV HGz12 1
      clear HGz12 hgz12
      have wL : 0 ≤ ((ji9) : Int) := oT
      have wN : (ji9) < (d4.length : Int) := oT
      obtain ⟨jW, nV, kZ⟩ := Kd.ZN HSz12_0 (ji9) wL wN
      cases nV
      replace kZ := mJ HB.1 kZ
      replace wL := eq_true wL
      replace wN := eq_true wN
      go_wp2
      repeat (go_quiet (fail); try go_wp2)
      go_ret
      exact ⟨by first | rfl | (simp [qR, qU] <;> rfl) | (simp only [← hji9]; first | rfl | (simp [qR, qU] <;> rfl)) | (simp [*, qR, qU] <;> rfl), tH, BJ, BK⟩
    ·rw [if_neg X7] at H
     exact absurd H (by simp)
   ·rw [if_neg c8] at H
    have HY : decide ((wrap64 ((wrap64 (hG + 1)) - 1)) < (d4.length : Int)) = false := decide_eq_false c8
    clear c8
    by_cases ZW : (d4.length : Int) = 0
    ·rw [if_pos ZW] at H
     exact absurd H (by simp)
    ·rw [if_neg ZW] at H
     have MV : ((d4.length : Int) == 0) = false := beq_eq_false_iff_ne.mpr ZW
     have qt : ((d4.length : Int) != 0) = true := bne_iff_ne.mpr ZW
     have aEM : ¬ (d4 = []) := fun h_ => ZW (by rw [h_]; rfl)
     obtain ⟨ji14, hji14⟩ : ∃ j_ : Int, (Int.tmod (wrap64 ((wrap64 (hG + 1)) - 1)) (d4.length : Int)) = j_ := ⟨_, rfl⟩
     replace H : (if 0 ≤ (ji14) then (if (ji14) < (d4.length : Int) then (if 0 ≤ (Int.tmod (wrap64 ((wrap64 ((wrap64 ((wrap64 (hG + 1)) - 1)) * 7)) + 3)) (d4.length : Int)) then (if (Int.tmod (wrap64 ((wrap64 ((wrap64 ((wrap64 (hG + 1)) - 1)) * 7)) + 3)) (d4.length : Int)) < (d4.length : Int) then (if a1 = 0 then (none) else (some (Int.tmod (Go.bits .xor .i64 (wrap64 ((wrap64 ((wrap64 ((wrap64 ((wrap64 (rd d4 (ji14))) * 131)) + (wrap64 ((wrap64 (rd d4 (Int.tmod (wrap64 ((wrap64 ((wrap64 ((wrap64 (hG + 1)) - 1)) * 7)) + 3)) (d4.length : Int)))) * 1117)))) + (wrap64 ((wrap64 ((wrap64 (hG + 1)) - 1)) * 29)))) + (wrap64 ((wrap64 (Int.tdiv (wrap64 ((wrap64 (hG + 1)) - 1)) (d4.length : Int))) * 53)))) (wrap64 (Int.tdiv (wrap64 ((wrap64 ((wrap64 ((wrap64 ((wrap64 (rd d4 (ji14))) * 131)) + (wrap64 ((wrap64 (rd d4 (Int.tmod (wrap64 ((wrap64 ((wrap64 ((wrap64 (hG + 1)) - 1)) * 7)) + 3)) (d4.length : Int)))) * 1117)))) + (wrap64 ((wrap64 ((wrap64 (hG + 1)) - 1)) * 29)))) + (wrap64 ((wrap64 (Int.tdiv (wrap64 ((wrap64 (hG + 1)) - 1)) (d4.length : Int))) * 53)))) 64))) a1, (wrap64 (hG + 1))))) else (none)) else (none)) else (none)) else (none)) = some (r1, r2) := by first | (rw [hji14] at H; exact H) | (simp only [hji14] at H ⊢; exact H)
     by_cases az : 0 ≤ (ji14)
     ·rw [if_pos az] at H
      have X8 : decide (0 ≤ (ji14)) = true := decide_eq_true az
      clear az
      by_cases U9 : (ji14) < (d4.length : Int)
      ·rw [if_pos U9] at H
       have IE : decide ((ji14) < (d4.length : Int)) = true := decide_eq_true U9
       clear U9
       obtain ⟨ji17, hji17⟩ : ∃ j_ : Int, (Int.tmod (wrap64 ((wrap64 ((wrap64 ((wrap64 (hG + 1)) - 1)) * 7)) + 3)) (d4.length : Int)) = j_ := ⟨_, rfl⟩
       replace H : (if 0 ≤ (ji17) then (if (ji17) < (d4.length : Int) then (if a1 = 0 then (none) else (some (Int.tmod (Go.bits .xor .i64 (wrap64 ((wrap64 ((wrap64 ((wrap64 ((wrap64 (rd d4 (ji14))) * 131)) + (wrap64 ((wrap64 (rd d4 (ji17))) * 1117)))) + (wrap64 ((wrap64 ((wrap64 (hG + 1)) - 1)) * 29)))) + (wrap64 ((wrap64 (Int.tdiv (wrap64 ((wrap64 (hG + 1)) - 1)) (d4.length : Int))) * 53)))) (wrap64 (Int.tdiv (wrap64 ((wrap64 ((wrap64 ((wrap64 ((wrap64 (rd d4 (ji14))) * 131)) + (wrap64 ((wrap64 (rd d4 (ji17))) * 1117)))) + (wrap64 ((wrap64 ((wrap64 (hG + 1)) - 1)) * 29)))) + (wrap64 ((wrap64 (Int.tdiv (wrap64 ((wrap64 (hG + 1)) - 1)) (d4.length : Int))) * 53)))) 64))) a1, (wrap64 (hG + 1))))) else (none)) else (none)) = some (r1, r2) := by first | (rw [hji17] at H; exact H) | (simp only [hji17] at H ⊢; exact H)
       by_cases MW : 0 ≤ (ji17)
       ·rw [if_pos MW] at H
        have vO : decide (0 ≤ (ji17)) = true := decide_eq_true MW
        clear MW
        by_cases jw : (ji17) < (d4.length : Int)
        ·rw [if_pos jw] at H
         have aER : decide ((ji17) < (d4.length : Int)) = true := decide_eq_true jw
         clear jw
         by_cases bb : a1 = 0
         ·rw [if_pos bb] at H
          exact absurd H (by simp)
         ·rw [if_neg bb] at H
          have Vu : (a1 == 0) = false := beq_eq_false_iff_ne.mpr bb
          have aES : (a1 != 0) = true := bne_iff_ne.mpr bb
          obtain ⟨rfl, rfl⟩ := sZ2 H
          repeat clear H
          obtain ⟨ASz21_0, cSz21_0, HGz21, hgz21, HSz21_0⟩ := gJ.out
          have Sg := EP HGz21
          have Sh := EQ HGz21
          have Sj := fV HGz21 1
          clear HGz21 hgz21
          have CV : 0 ≤ ((ji14) : Int) := oT
          have CY : (ji14) < (d4.length : Int) := oT
          obtain ⟨oC, sG, o2⟩ := Kd.ZN HSz21_0 (ji14) CV CY
          cases sG
          replace o2 := mJ HB.1 o2
          replace CV := eq_true CV
          replace CY := eq_true CY
          have uK : 0 ≤ ((ji17) : Int) := oT
          have uL : (ji17) < (d4.length : Int) := oT
          obtain ⟨e4, oG, j5⟩ := Kd.ZN HSz21_0 (ji17) uK uL
          obtain rfl : oC = e4 := (by injection oG)
          replace j5 := mJ HB.1 j5
          replace uK := eq_true uK
          replace uL := eq_true uL
          go_wp2
          repeat (go_quiet (fail); try go_wp2)
          go_ret
          exact ⟨by first | rfl | (simp [qR, qU] <;> rfl) | (simp only [← hji14, ← hji17]; first | rfl | (simp [qR, qU] <;> rfl)) | (simp [*, qR, qU] <;> rfl), tH, BJ, BK⟩
        ·rw [if_neg jw] at H
         exact absurd H (by simp)
       ·rw [if_neg MW] at H
        exact absurd H (by simp)
      ·rw [if_neg U9] at H
       exact absurd H (by simp)
     ·rw [if_neg az] at H
      exact absurd H (by simp)
theorem PS {w W : World} {g n : Nat} {ad : Addr} {xs : List S56} (hf : ∀ W_, aW w W_ g none → Kd.C k56 W_ (some ad) n xs) (hk : aW w W g none) (i : Int) (h0 : 0 ≤ i) (h1 : i < n) {A2 : Option Addr} {c2 : Nat}
  (hx : W.cell? ⟨(ad.add (i.toNat * 3)).block, (ad.add (i.toNat * 3)).off + 2, none⟩ = some (.slice A2 (aC xs i).f2.length c2)) : ∀ W_, aW w W_ g none → Kd.C Kd.string W_ A2 (aC xs i).f2.length (aC xs i).f2 := by
 intro W_ hk_
 have hne : (⟨(ad.add (i.toNat * 3)).block, (ad.add (i.toNat * 3)).off + 2, none⟩ : Addr).block ≠ g := by
  show (ad.add (i.toNat * 3)).block ≠ g
  rw [add_block]
  exact Kd.sK hf (by omega) (by decide)
 obtain ⟨a, _, _, B, b, e, _, _, hw, _⟩ := x9 (hf w (aW.refl w g none)) i h0 h1
 cases e
 have e1 := (kC hk hw hne).symm.trans hx
 obtain ⟨a, _, _, B2, b2, e, _, _, hw2, _, _, _, hc⟩ := x9 (hf W_ hk_) i h0 h1
 cases e
 have e2 := (kC hk_ hw hne).symm.trans hw2
 injection e1 with e1
 injection e1 with e1 _ _
 injection e2 with e2
 injection e2 with e2 _ _
 rw [← e1, e2]
 exact hc
theorem Mc {w : World} {g n : Nat} {A : Option Addr} {l : List ByteArray} (h : ∀ W_, aW w W_ g none → Kd.C Kd.string W_ A n l) : ∀ ad, A = some ad → 0 < n → ad.block ≠ g := fun ad e hn => by
  subst e
  exact Kd.sK h hn (by decide)
def fU.f (k : Nat) (d4 : List Int) (hG : Int) (l1 : List ByteArray) : Option (ByteArray × Int) := (bE.f k d4 hG (l1.length : Int)).bind fun a => (if 0 ≤ a.1 then (if a.1 < (l1.length : Int) then (some (rdOf ByteArray.empty l1 a.1, a.2)) else (none)) else (none))
theorem fU.calls (k : Nat) (g : Nat) (d4 : List Int) (hG : Int) (A1 : Option Addr) (c1 : Nat) (l1 : List ByteArray) (r1 : ByteArray) (r2 : Int) (w0 w : World) (hI : aD w0 w g d4 hG) (hB : Below w0.heap.size w0 w) (BF : Kd.C Kd.string w A1 l1.length l1) (DK : l1.length ≤ c1) (hf1 : ∀ ad, A1 = some ad → 0 < l1.length → ad.block ≠ g) (h : fU.f k d4 hG l1 = some (r1, r2)) :
  Calls Try.prog 101 #[.pointer (some ⟨g, 0, none⟩), .slice A1 l1.length c1] w fun e w' => e = .returned (.string r1) ∧ aD w0 w' g d4 r2 ∧ Below w0.heap.size w0 w' ∧ aW w w' g none := by
 obtain ⟨tO, zK⟩ := mZ2 BF DK
 clear BF DK
 have gJ := am hI
 have HK := am (aW.refl w g none)
 have HL := am hB.size
 clear hI
 have HW0 := am hB.size
 have HB := am hB
 clear hB
 unfold fU.f at h
 have H := h
 clear h
 obtain ⟨⟨sR, kQ⟩, A3, H⟩ := bd H
 dsimp only at H
 obtain ⟨vT, H⟩ := cN H
 obtain ⟨EO, H⟩ := cN H
 obtain ⟨rfl, rfl⟩ := sZ2 H
 repeat clear H
 go_enter Try.func101, Try.ntmps101
 go_wp2_with (first | ((with_reducible refine gC 100 ?_); refine cQ (some 9) Try.func100 (bE.calls k g d4 hG (l1.length : Int) sR kQ w0 _ (tH) (BJ) A3.out) ?_; rintro w6 ⟨hi, hb, hk⟩; replace HK := kT w g BK hk; replace HB := am hb; replace gJ := am hi; clear hb hk hi; have uK : 0 ≤ (sR : Int) := oT; have uL : sR < (l1.length : Int) := oT; obtain ⟨e4, oG, j5⟩ := Kd.DD tO.1 sR uK uL; cases oG; replace j5 := kC HK.out j5 (by first | (rw [add_block]; exact hf1 _ rfl (by omega)) | exact hf1 _ rfl (by omega) | exact hf1 e4 rfl (by omega)); replace uK := eq_true uK; replace uL := eq_true uL))
 go_ret
 exact ⟨eR, tH, BJ, BK⟩
def gF.l0 : Nat → List ByteArray → Int → List ByteArray → Int → List Int → Int → Option (List ByteArray × Int)
 | 0, _, _, _, _, _, _ => none
 | k + 1, b, d, c, a, e, h => if a < (b.length : Int) then ((bE.f k e h d).bind fun g => (if g.1 = 0 then (if 0 ≤ a then (if c.length < 8796093022208 then (gF.l0 k b d (c ++ [rdOf ByteArray.empty b a]) (wrap64 (a + 1)) e g.2) else (none)) else (none)) else (gF.l0 k b d c (wrap64 (a + 1)) e g.2))) else (some (c, h))
def gF.f (k : Nat) (d4 : List Int) (hG : Int) (l1 : List ByteArray) (a2 : Int) : Option (List ByteArray × Int) := gF.l0 k l1 a2 (([] : List ByteArray)) 0 d4 hG
theorem gF.calls (k : Nat) (g : Nat) (d4 : List Int) (hG : Int) (A1 : Option Addr) (c1 : Nat) (l1 : List ByteArray) (a2 : Int) (r1 : List ByteArray) (r2 : Int) (w0 w : World) (hI : aD w0 w g d4 hG) (hB : Below w0.heap.size w0 w) (BF : Kd.C Kd.string w A1 l1.length l1) (DK : l1.length ≤ c1) (hf1 : ∀ ad, A1 = some ad → 0 < l1.length → ad.block ≠ g) (h : gF.f k d4 hG l1 a2 = some (r1, r2)) :
  Calls Try.prog 109 #[.pointer (some ⟨g, 0, none⟩), .slice A1 l1.length c1, .int .i64 a2] w fun e w' => ∃ v0_ : Value, e = .returned (v0_) ∧ Kd.R Kd.string 9 w' w.heap.size (fun _ => True) v0_ r1 ∧ aD w0 w' g d4 r2 ∧ Below w0.heap.size w0 w' ∧ aW w w' g none := by
 obtain ⟨tO, zK⟩ := mZ2 BF DK
 clear BF DK
 have gJ := am hI
 have HK := am (aW.refl w g none)
 have HL := am hB.size
 clear hI
 have HW0 := am hB.size
 have HB := am hB
 clear hB
 unfold gF.f at h
 have H := h
 clear h
 obtain ⟨WO, hy101⟩ : ∃ y_ : List ByteArray, y_ = (([] : List ByteArray)) := ⟨_, rfl⟩
 replace H : (gF.l0 k l1 a2 WO 0 d4 hG) = some (r1, r2) := by first | (rw [hy101]; with_reducible exact H) | (have H2_ := (Option.bind_some _ _).symm.trans H; rw [hy101]; with_reducible exact H2_) | (have H2_ := (Option.bind_some _ _).symm.trans H; with_reducible exact H2_) | with_reducible exact H | (rw [hy101]; exact H) | exact H
 have FI := am hy101
 clear hy101
 have H' := am H
 repeat clear H
 go_enter Try.func109, Try.ntmps109
 go_wp2_with (first | ((with_reducible refine jD (N := 9) rfl ?_); refine lS 9 9 FI ?_; intro Hp w4 ho5 hb; have l5 := am (Kd.cO ho5 (kz w g BK)); replace HK := kU w g BK hb; replace HB := bS BJ hb; replace gJ := am (aD.below tH hb); clear hb ho5))
 go_loopg [7, 8] k (fun kq v7 v8 w' => ∃ (kW : List ByteArray) (FQ : Int) (n3 : Int), v8 = .int .i64 FQ ∧ aA (gF.l0 kq l1 a2 kW FQ d4 n3 = some (r1, r2)) ∧ aA (kq ≤ k) ∧ aA (Kd.R Kd.string 9 w' w.heap.size (fun _ => True) v7 kW) ∧ aA (aD w0 w' g d4 n3) ∧ aA (aW w w' g none) ∧ aA (Below w0.heap.size w0 w'))
 case atStart => exact ⟨(WO), (0), (hG), dH, H', ⟨Nat.le_refl _⟩, ⟨rR l5.1⟩, ⟨tH⟩, ⟨BK⟩, ⟨BJ⟩⟩
 clear H'
 try clear c1
 obtain ⟨kW, FQ, n3, rfl, HA, HK1, QI, gJ, HK, HB⟩ := hrel
 cases gk with
 | zero => exact absurd HA.out (by simp [gF.l0])
 | succ k1 =>
  have H := HA.out
  clear HA
  simp only [gF.l0] at H
  refine ic H ?_ ?_ <;> clear H <;> intro PK H
  ·obtain ⟨⟨dI, fI⟩, A7, H⟩ := bd H
   dsimp only at H
   refine iq H ?_ ?_ <;> clear H <;> intro c8 HY a6K H
   ·obtain ⟨LY, H⟩ := cN H
    obtain ⟨Iz, H⟩ := cL H
    obtain ⟨R5, JS⟩ := yv (kW ++ [rdOf ByteArray.empty l1 FQ]); first | replace H := bW JS H | rw [← JS.1] at H
    have H' := am H
    repeat clear H
    go_wp2_with (first | ((with_reducible refine gC 100 ?_); refine cQ (some 18) Try.func100 (bE.calls k1 g d4 n3 a2 dI fI w0 _ (tH) (BJ) A7.out) ?_; rintro wm ⟨hi, hb, hk⟩; replace QI := iR tH (rR QI.1) hk; replace HK := kT w g BK hk; replace HB := am hb; replace gJ := am hi; clear hb hk hi; have M8 : 0 ≤ (FQ : Int) := oT; have GI : FQ < (l1.length : Int) := oT; obtain ⟨vK, CS, p2⟩ := Kd.DD tO.1 FQ M8 GI; cases CS; replace p2 := kC HK.out p2 (by first | (rw [add_block]; exact hf1 _ rfl (by omega)) | exact hf1 _ rfl (by omega) | exact hf1 vK rfl (by omega)); replace M8 := eq_true M8; replace GI := eq_true GI) | ((with_reducible refine pY (b := .append) (xs := #[.tmp 20, .tmp 25]) rfl ?_); at_builtin; refine Kd.zX Kd.string w.heap.size rfl (.tmp 20) (.tmp 25) 23 9 (.string ⟨#[]⟩) 16 rfl Try.underlying23 jT rfl (by decide) (by omega) u7 kW (rdOf ByteArray.empty l1 FQ) [.string (rdOf ByteArray.empty l1 FQ)] (fun _ => True) (fun _ => False) rfl rfl ?aP (fun _ hk => hk.elim) ?aF ?aO (Below.refl _ _) ?aS ?aL ?_; (case aP => exact rfl); (case aF => exact (fun _ _ => trivial)); (case aO => exact (rR QI.1)); (case aS => exact (kz w g BK)); (case aL => have := Iz.out; omega); intro FP w12 ho hb hg hat; rw [← JS.out] at ho; replace HB := am (oF BJ HL.out hb); replace gJ := am (aD.grown tH hg (aD.own_ne gJ.out QI.1 (by decide))); replace HK := am (aW.trans BK (aW.qW hg g) (Kd.BS QI.1)); have fQ := am ho; clear QI; clear ho hb hg hat))
    go_roundg k1
    case measure => have := HK1.out; omega
    case rel => exact ⟨(R5), (wrap64 (FQ + 1)), (fI), dH, H', ⟨by have := HK1.out; omega⟩, ⟨rR fQ.1⟩, ⟨tH⟩, ⟨BK⟩, ⟨BJ⟩⟩
   ·have H' := am H
    repeat clear H
    go_wp2_with (first | ((with_reducible refine gC 100 ?_); refine cQ (some 18) Try.func100 (bE.calls k1 g d4 n3 a2 dI fI w0 _ (tH) (BJ) A7.out) ?_; rintro Pt ⟨hi, hb, hk⟩; replace QI := iR tH (rR QI.1) hk; replace HK := kT w g BK hk; replace HB := am hb; replace gJ := am hi; clear hb hk hi))
    go_roundg k1
    case measure => have := HK1.out; omega
    case rel => exact ⟨(kW), (wrap64 (FQ + 1)), (fI), dH, H', ⟨by have := HK1.out; omega⟩, ⟨rR QI.1⟩, ⟨tH⟩, ⟨BK⟩, ⟨BJ⟩⟩
  ·obtain ⟨rfl, rfl⟩ := sZ2 H
   repeat clear H
   go_wp2
   go_ret
   exact ⟨_, eR, rR QI.1, tH, BJ, BK⟩
def nQ.f  : Option (List ByteArray) := some (([(⟨#[97, 108, 101]⟩ : ByteArray), (⟨#[98]⟩ : ByteArray), (⟨#[99, 45, 99]⟩ : ByteArray), (⟨#[100, 97, 114, 107]⟩ : ByteArray), (⟨#[120, 57]⟩ : ByteArray)] : List ByteArray))
theorem nQ.calls  (r : List ByteArray) (w : World) (h : nQ.f  = some r) :
  Calls Try.prog 132 #[] w fun e w' => ∃ v0_ : Value, e = .returned (v0_) ∧ Kd.R Kd.string 9 w' w.heap.size (fun _ => True) v0_ r ∧ Below w.heap.size w w' := by
 have HB := am (Below.refl w.heap.size w)
 unfold nQ.f at h
 have H := h
 clear h
 obtain ⟨WO, FI⟩ := yv (([(⟨#[97, 108, 101]⟩ : ByteArray), (⟨#[98]⟩ : ByteArray), (⟨#[99, 45, 99]⟩ : ByteArray), (⟨#[100, 97, 114, 107]⟩ : ByteArray), (⟨#[120, 57]⟩ : ByteArray)] : List ByteArray)); first | replace H := bW FI H | rw [← FI.1] at H
 obtain rfl := Option.some.inj H
 repeat clear H
 go_enter Try.func132, Try.ntmps132
 go_wp2_with (first | ((with_reducible refine jD (N := 1) rfl ?_); refine lS 9 1 FI ?_; intro Hp w1 eu hb; have l5 := am (Kd.cO eu (aG eI)); replace HB := bS eI hb; clear hb eu))
 go_ret
 exact ⟨_, eR, rR l5.1, eI⟩
end Go.Proofs.Ytaofjgnhapnndaa.Q
