/- Texts that the row needs: words on memory and rows, the contracts of the functions it reaches, and the plain lemmas on what they compute. -/
import Derived.Shelf.Abstract
import Derived.Test.YtaofjgnhapnndaaXklae
set_option maxHeartbeats 8000000
set_option maxRecDepth 100000
open Go.Proofs.YtaofjgnhapnndaaFkl
namespace Go.Proofs.Ytaofjgnhapnndaa.Q
open Go.RowKit Go.Proofs.YtaofjgnhapnndaaW.PrintWords Go.Proofs.YtaofjgnhapnndaaW.PrintLast Go.Proofs.YtaofjgnhapnndaaW.PrintMore
set_option linter.unusedVariables false
set_option linter.unusedSimpArgs false
def bg (g : Nat) (lb : Array Value) (p : ByteArray → Bool) (w : World) : Prop :=
  ∀ (W : World) (s : ByteArray), Below w.heap.size w W → Calls Try.prog g (#[.string s] ++ lb) W fun e w' => e = .returned (.bool (p s)) ∧ Below w.heap.size w w'
theorem VG {α : Type} {d : Kd α} {w : World} {A : Option Addr} {n : Nat} {xs : List α} (h : d.C w A n xs) : n ≤ 9223372036854775807 := h.2.1
def idxP (p : ByteArray → Bool) : List ByteArray → Nat → Int
  | [], _ => -1
  | x :: xs, i => if p x = true then (i : Int) else idxP p xs (i + 1)
theorem Cb (p : ByteArray → Bool) : ∀ (l : List ByteArray) (i : Nat), decide (0 ≤ idxP p l i) = l.any p := by
 intro l
 induction l with
 | nil => intro i; simp [idxP]
 | cons x xs ih =>
  intro i
  unfold idxP
  cases h : p x with
  | true => simp [h]
  | false => simp [h, ih]
set_option maxHeartbeats 2000000 in
theorem LP (g : Nat) (lb : Array Value) (eg : ∀ args w, (callFunc g args).run Try.prog w = .ok (.enter g args) w) (p : ByteArray → Bool) (A0 : Option Addr) (c0 : Nat) (l0 : List ByteArray) (w : World)
  (sJ : Kd.C Kd.string w A0 l0.length l0) (hp : bg g lb p w) :
  Calls Try.prog 113 #[.slice A0 l0.length c0, .func (.func g) #[] lb] w fun e w' => e = .returned (.int .i64 (idxP p l0 0)) ∧ Below w.heap.size w w' := by
 have hbig := VG sJ
 have tO := aC.mk sJ
 clear sJ
 have HP := aC.mk hp
 clear hp
 go_enter Try.func113, Try.ntmps113
 go_wp2
 go_loopg [5, 8] l0.length (fun gg _ s8 wr => ∃ kk : Nat, kk ≤ l0.length ∧ l0.length - kk ≤ gg ∧ s8 = .int .i64 kk ∧ aC (Below w.heap.size w wr) ∧ aC (idxP p l0 0 = idxP p (l0.drop kk) kk))
 case atStart => exact ⟨0, Nat.zero_le _, by omega, rfl, ⟨Below.refl _ w⟩, ⟨by rw [List.drop_zero]⟩⟩
 obtain ⟨kk, hkk, hg, rfl, BW, A⟩ := hrel
 by_cases hlt : kk < l0.length
 ·have hltz : (kk : Int) < (l0.length : Int) := by omega
  have e1 := A.out
  rw [List.drop_eq_getElem_cons hlt, idxP] at e1
  have E1 := aC.mk e1
  clear e1
  obtain ⟨ad, rfl, hx⟩ := Kd.FV tO.1 (kk : Int) (by omega) (by omega)
  rw [Cv _ _ _ hlt, Int.toNat_natCast] at hx
  have hcall := HP.out wr l0[kk] BW.out
  replace hx := (BW.out.cell (World.block_lt_of_cell? w _ hx)).trans hx
  generalize hy : l0[kk] = y at hx hcall E1
  clear hy
  cases hq : p y with
  | true =>
   rw [hq] at hcall
   have E2 : aC (idxP p l0 0 = kk) := ⟨by rw [E1.out, if_pos hq]⟩
   clear hq
   go_wp2_with (go_at_fn g; refine hcall.mono ?_; rintro e w' ⟨rfl, hb'⟩)
   go_ret
   exact ⟨by rw [E2.out]; rfl, hb'⟩
  | false =>
   rw [hq] at hcall
   have E2 : aC (idxP p l0 0 = idxP p (l0.drop (kk + 1)) (kk + 1)) := ⟨by rw [E1.out, if_neg (by simp [hq])]⟩
   clear hq
   go_wp2_with (go_at_fn g; refine hcall.mono ?_; rintro e w' ⟨rfl, hb'⟩)
   go_roundg (l0.length - (kk + 1))
   case measure => omega
   case rel => exact ⟨kk + 1, by omega, by omega, by go_num, ⟨hb'⟩, E2⟩
 have hltz : ¬ (kk : Int) < (l0.length : Int) := by omega
 have hk2 : kk = l0.length := by omega
 have E2 : aC (idxP p l0 0 = -1) := ⟨by rw [A.out, hk2, List.drop_length]; rfl⟩
 subst hk2
 go_wp2
 go_ret
 exact ⟨by rw [E2.out]; rfl, BW.out⟩
theorem FY (g : Nat) (lb : Array Value) (eg : ∀ args w, (callFunc g args).run Try.prog w = .ok (.enter g args) w) (p : ByteArray → Bool) (A0 : Option Addr) (c0 : Nat) (l0 : List ByteArray) (w : World)
  (sJ : Kd.C Kd.string w A0 l0.length l0) (hp : bg g lb p w) :
  Calls Try.prog 75 #[.slice A0 l0.length c0, .func (.func g) #[] lb] w fun e w' => e = .returned (.bool (l0.any p)) ∧ Below w.heap.size w w' := by
 have HC := aC.mk (LP g lb eg p A0 c0 l0 w sJ hp)
 have HN := aC.mk (Cb p l0 0)
 clear sJ hp eg
 generalize idxP p l0 0 = q at HC HN
 go_enter Try.func75, Try.ntmps75
 go_wp2_with (go_at_call 113; refine HC.out.mono ?_; rintro e w' ⟨rfl, hb'⟩)
 go_ret
 exact ⟨by rw [← HN.out]; rfl, hb'⟩
mutual
def dI.j0 : Nat → ByteArray → Bool → Option (Bool)
 | 0, _, _ => none
 | k + 1, a, b => if b = true then (some false) else (dI.l0 k a 0)
def dI.l0 : Nat → ByteArray → Int → Option (Bool)
 | 0, _, _ => none
 | k + 1, b, a => if a < (b.size : Int) then (if 0 ≤ a then (if (bt b a) ≥ 97 then (if (bt b a) ≤ 122 then (dI.l0 k b (wrap64 (a + 1))) else (if (bt b a) ≥ 48 then (if (bt b a) ≤ 57 then (dI.l0 k b (wrap64 (a + 1))) else (if ((bt b a) = 45) then (dI.l0 k b (wrap64 (a + 1))) else (some false))) else (if ((bt b a) = 45) then (dI.l0 k b (wrap64 (a + 1))) else (some false)))) else (if (bt b a) ≥ 48 then (if (bt b a) ≤ 57 then (dI.l0 k b (wrap64 (a + 1))) else (if ((bt b a) = 45) then (dI.l0 k b (wrap64 (a + 1))) else (some false))) else (if ((bt b a) = 45) then (dI.l0 k b (wrap64 (a + 1))) else (some false)))) else (none)) else (some true)
end
def dI.f (k : Nat) (a0 : ByteArray) : Option (Bool) := if (a0.size : Int) < 1 then (dI.j0 k a0 true) else (dI.j0 k a0 (decide ((a0.size : Int) > 8)))
theorem dI.U5 : ∀ k, (∀ y0 y1, LeO (dI.j0 k y0 y1) (dI.j0 (k + 1) y0 y1)) ∧ (∀ y0 y1, LeO (dI.l0 k y0 y1) (dI.l0 (k + 1) y0 y1))
 | 0 => ⟨fun _ _ r h => by simp [dI.j0] at h, fun _ _ r h => by simp [dI.l0] at h⟩
 | k + 1 => by
  obtain ⟨ih0, ih1⟩ := dI.U5 k
  refine ⟨?_, ?_⟩
  ·intro y0 y1
   unfold dI.j0
   repeat' first
   | (with_reducible exact ih0 _ _)
   | (with_reducible exact ih1 _ _)
   | (with_reducible exact LeO.refl _)
   | (with_reducible exact LeO.none _)
   | (with_reducible refine LeO.ite ?_ ?_)
   | (with_reducible refine LeO.bind ?_ (fun _ => ?_))
   | exact ih0 _ _
   | exact ih1 _ _
   | exact LeO.none _
   | refine LeO.ite ?_ ?_
   | refine LeO.bind ?_ (fun _ => ?_)
  ·intro y0 y1
   unfold dI.l0
   repeat' first
   | (with_reducible exact ih0 _ _)
   | (with_reducible exact ih1 _ _)
   | (with_reducible exact LeO.refl _)
   | (with_reducible exact LeO.none _)
   | (with_reducible refine LeO.ite ?_ ?_)
   | (with_reducible refine LeO.bind ?_ (fun _ => ?_))
   | exact ih0 _ _
   | exact ih1 _ _
   | exact LeO.none _
   | refine LeO.ite ?_ ?_
   | refine LeO.bind ?_ (fun _ => ?_)
theorem dI.mono : ∀ a0 k, LeO (dI.f k a0) (dI.f (k + 1) a0) := by
 intro a0 k
 obtain ⟨ih0, ih1⟩ := dI.U5 k
 unfold dI.f
 repeat' first
   | (with_reducible exact ih0 _ _)
   | (with_reducible exact ih1 _ _)
   | (with_reducible exact LeO.refl _)
   | (with_reducible exact LeO.none _)
   | (with_reducible refine LeO.ite ?_ ?_)
   | (with_reducible refine LeO.bind ?_ (fun _ => ?_))
   | exact ih0 _ _
   | exact ih1 _ _
   | exact LeO.none _
   | refine LeO.ite ?_ ?_
   | refine LeO.bind ?_ (fun _ => ?_)
theorem dI.calls (k : Nat) (a0 : ByteArray) (r : Bool) (w : World) (h : dI.f k a0 = some r) :
  Calls Try.prog 77 #[.string a0] w fun e w' => e = .returned (.bool r) ∧ kY w w' := by
 unfold dI.f at h
 have H := h
 clear h
 have zZ := am H
 clear H
 go_enter Try.func77, Try.ntmps77
 go_upto_region 1 with ((fail))
 go_cut [12] (fun v12 wc => ∃ (kq : Nat) (qM : Bool), v12 = .bool qM ∧ aC (dI.j0 kq a0 qM = some r) ∧ aC (kq ≤ k) ∧ kY w wc)
 case first =>
  have H := zZ.1
  clear zZ
  by_cases c3 : (a0.size : Int) < 1
  ·rw [if_pos c3] at H
   have IM : decide ((a0.size : Int) < 1) = true := decide_eq_true c3
   have Ld : decide (a0.size < 1) = true := decide_eq_true (by omega)
   clear c3
   (first | rw [IM] | (simp only [q8, uS]; rw [IM]) | skip)
   have H' := am H
   repeat clear H
   go_wp2
   go_meet
   exact ⟨_, (true), dM, H', ⟨by first | omega | exact Nat.le_refl _⟩, gR⟩
  rw [if_neg c3] at H
  have IM : decide ((a0.size : Int) < 1) = false := decide_eq_false c3
  have Ld : decide (a0.size < 1) = false := decide_eq_false (by omega)
  clear c3
  (first | rw [IM] | (simp only [q8, uS]; rw [IM]) | skip)
  have H' := am H
  repeat clear H
  go_wp2
  go_meet
  exact ⟨_, (decide ((a0.size : Int) > 8)), dM, H', ⟨by first | omega | exact Nat.le_refl _⟩, gR⟩
 clear zZ
 obtain ⟨kq, qM, rfl, HA, HJ1, ⟨mc1, rfl⟩⟩ := hcut
 cases kq with
 | zero => exact absurd HA.out (by simp [dI.j0])
 | succ kj1 =>
  have H := HA.out
  clear HA
  simp only [dI.j0] at H
  refine tC H ?_ ?_ <;> clear H <;> intro c4 H <;> subst c4
  ·obtain rfl := Option.some.inj H
   repeat clear H
   go_wp2
   go_ret
   exact ⟨by first | rfl | (simp; done) | (simp [*]; done), gR⟩
  ·have H' := am H
   repeat clear H
   go_wp2
   go_loopg [3] kj1 (fun kq v3 w' => ∃ (hD : Int), v3 = .int .i64 hD ∧ aC (dI.l0 kq a0 hD = some r) ∧ aC (kq ≤ kj1) ∧ kY w w')
   case atStart => exact ⟨(0), dM, H', ⟨Nat.le_refl _⟩, gR⟩
   case round =>
    clear H'
    try clear c4
    obtain ⟨hD, rfl, HA, HK2, ⟨m2, rfl⟩⟩ := hrel
    cases gk with
    | zero => exact absurd HA.out (by simp [dI.l0])
    | succ k2 =>
     have H := HA.out
     clear HA
     simp only [dI.l0] at H
     refine ic H ?_ ?_ <;> clear H <;> intro IP H
     ·obtain ⟨RQ, H⟩ := cN H
      by_cases c8 : (bt a0 hD) ≥ 97
      ·rw [if_pos c8] at H
       have LB : decide (97 ≤ (bt a0 hD)) = true := decide_eq_true c8
       clear c8
       refine ic H ?_ ?_ <;> clear H <;> intro PV H
       ·have H' := am H
        repeat clear H
        obtain ⟨Ut, p7, q7⟩ := aB a0 hD
        go_wp2
        go_roundg k2
        case measure => have := HJ1.out; have := HK2.out; omega
        case rel => exact ⟨(wrap64 (hD + 1)), dM, H', ⟨by have := HJ1.out; have := HK2.out; omega⟩, gR⟩
       ·by_cases Ba : (bt a0 hD) ≥ 48
        ·rw [if_pos Ba] at H
         have NL : decide (48 ≤ (bt a0 hD)) = true := decide_eq_true Ba
         clear Ba
         refine ic H ?_ ?_ <;> clear H <;> intro NM H
         ·have H' := am H
          repeat clear H
          obtain ⟨Ut, p7, q7⟩ := aB a0 hD
          go_wp2
          go_roundg k2
          case measure => have := HJ1.out; have := HK2.out; omega
          case rel => exact ⟨(wrap64 (hD + 1)), dM, H', ⟨by have := HJ1.out; have := HK2.out; omega⟩, gR⟩
         ·refine iq H ?_ ?_ <;> clear H <;> intro c12 QX Qo H
          ·have H' := am H
           repeat clear H
           obtain ⟨Ut, p7, q7⟩ := aB a0 hD
           go_wp2
           go_roundg k2
           case measure => have := HJ1.out; have := HK2.out; omega
           case rel => exact ⟨(wrap64 (hD + 1)), dM, H', ⟨by have := HJ1.out; have := HK2.out; omega⟩, gR⟩
          ·obtain rfl := Option.some.inj H
           repeat clear H
           obtain ⟨Ut, p7, q7⟩ := aB a0 hD
           go_wp2
           go_ret
           exact ⟨by first | rfl | (simp; done) | (simp [*]; done), gR⟩
        ·rw [if_neg Ba] at H
         have NL : decide (48 ≤ (bt a0 hD)) = false := decide_eq_false Ba
         clear Ba
         refine iq H ?_ ?_ <;> clear H <;> intro Lc WD a07 H
         ·have H' := am H
          repeat clear H
          obtain ⟨Ut, p7, q7⟩ := aB a0 hD
          go_wp2
          go_roundg k2
          case measure => have := HJ1.out; have := HK2.out; omega
          case rel => exact ⟨(wrap64 (hD + 1)), dM, H', ⟨by have := HJ1.out; have := HK2.out; omega⟩, gR⟩
         ·obtain rfl := Option.some.inj H
          repeat clear H
          obtain ⟨Ut, p7, q7⟩ := aB a0 hD
          go_wp2
          go_ret
          exact ⟨by first | rfl | (simp; done) | (simp [*]; done), gR⟩
      ·rw [if_neg c8] at H
       have LB : decide (97 ≤ (bt a0 hD)) = false := decide_eq_false c8
       clear c8
       by_cases Mz : (bt a0 hD) ≥ 48
       ·rw [if_pos Mz] at H
        have Bb : decide (48 ≤ (bt a0 hD)) = true := decide_eq_true Mz
        clear Mz
        refine ic H ?_ ?_ <;> clear H <;> intro WE H
        ·have H' := am H
         repeat clear H
         obtain ⟨Ut, p7, q7⟩ := aB a0 hD
         go_wp2
         go_roundg k2
         case measure => have := HJ1.out; have := HK2.out; omega
         case rel => exact ⟨(wrap64 (hD + 1)), dM, H', ⟨by have := HJ1.out; have := HK2.out; omega⟩, gR⟩
        ·refine iq H ?_ ?_ <;> clear H <;> intro Bc JG Qs H
         ·have H' := am H
          repeat clear H
          obtain ⟨Ut, p7, q7⟩ := aB a0 hD
          go_wp2
          go_roundg k2
          case measure => have := HJ1.out; have := HK2.out; omega
          case rel => exact ⟨(wrap64 (hD + 1)), dM, H', ⟨by have := HJ1.out; have := HK2.out; omega⟩, gR⟩
         ·obtain rfl := Option.some.inj H
          repeat clear H
          obtain ⟨Ut, p7, q7⟩ := aB a0 hD
          go_wp2
          go_ret
          exact ⟨by first | rfl | (simp; done) | (simp [*]; done), gR⟩
       ·rw [if_neg Mz] at H
        have Bb : decide (48 ≤ (bt a0 hD)) = false := decide_eq_false Mz
        clear Mz
        refine iq H ?_ ?_ <;> clear H <;> intro c17 Qt aL9 H
        ·have H' := am H
         repeat clear H
         obtain ⟨Ut, p7, q7⟩ := aB a0 hD
         go_wp2
         go_roundg k2
         case measure => have := HJ1.out; have := HK2.out; omega
         case rel => exact ⟨(wrap64 (hD + 1)), dM, H', ⟨by have := HJ1.out; have := HK2.out; omega⟩, gR⟩
        ·obtain rfl := Option.some.inj H
         repeat clear H
         obtain ⟨Ut, p7, q7⟩ := aB a0 hD
         go_wp2
         go_ret
         exact ⟨by first | rfl | (simp; done) | (simp [*]; done), gR⟩
     ·obtain rfl := Option.some.inj H
      repeat clear H
      go_wp2
      go_ret
      exact ⟨by first | rfl | (simp; done) | (simp [*]; done), gR⟩
end Go.Proofs.Ytaofjgnhapnndaa.Q
namespace Go.Proofs.Ytaofjgnhapnndaa.Q
open Go.RowKit Go.Proofs.YtaofjgnhapnndaaW.PrintWords Go.Proofs.YtaofjgnhapnndaaW.PrintLast Go.Proofs.YtaofjgnhapnndaaW.PrintMore
set_option linter.unusedVariables false
set_option linter.unusedSimpArgs false
def okc (c : Int) : Bool := (decide (97 ≤ c) && decide (c ≤ 122)) || (decide (48 ≤ c) && decide (c ≤ 57)) || decide (c = 45)
def wI (s : ByteArray) : Bool := decide (1 ≤ s.size) && decide (s.size ≤ 8) && (List.range' 0 s.size).all fun j => okc (bt s (j : Int))
theorem Sv {c : Int} (h : okc c = true) : (97 ≤ c ∧ c ≤ 122) ∨ (48 ≤ c ∧ c ≤ 57) ∨ c = 45 := by
 simpa [okc, or_assoc] using h
theorem Mh {c : Int} (h : okc c = false) : ¬ (97 ≤ c ∧ c ≤ 122) ∧ ¬ (48 ≤ c ∧ c ≤ 57) ∧ ¬ c = 45 := by
 simp only [okc, Bool.or_eq_false_iff, Bool.and_eq_false_iff, decide_eq_false_iff_not] at h
 omega
theorem ZK {α : Type} (c : Int) (x y : α) :
  (if c ≥ 97 then (if c ≤ 122 then x else (if c ≥ 48 then (if c ≤ 57 then x else (if c = 45 then x else y)) else (if c = 45 then x else y))) else (if c ≥ 48 then (if c ≤ 57 then x else (if c = 45 then x else y)) else (if c = 45 then x else y))) = if okc c = true then x else y := by
 cases h : okc c with
 | true =>
  rw [if_pos rfl]
  have h := Sv h
  split
  ·split
   ·rfl
   ·split
    ·split
     ·rfl
     ·rw [if_pos (by omega)]
    ·rw [if_pos (by omega)]
  ·split
   ·split
    ·rfl
    ·rw [if_pos (by omega)]
   ·rw [if_pos (by omega)]
 | false =>
  rw [show (if false = true then x else y) = y from rfl]
  obtain ⟨h1, h2, h3⟩ := Mh h
  rw [if_neg h3]
  by_cases a : c ≥ 97
  ·rw [if_pos a, if_neg (fun b => h1 ⟨a, b⟩)]
   by_cases a2 : c ≥ 48
   ·rw [if_pos a2, if_neg (fun b => h2 ⟨a2, b⟩)]
   ·rw [if_neg a2]
  ·rw [if_neg a]
   by_cases a2 : c ≥ 48
   ·rw [if_pos a2, if_neg (fun b => h2 ⟨a2, b⟩)]
   ·rw [if_neg a2]
theorem Yk (s : ByteArray) (hs : s.size ≤ 9223372036854775807) : ∀ (d k i : Nat), s.size - i = d → i ≤ s.size → d < k →
  dI.l0 k s (i : Int) = some ((List.range' i d).all fun j => okc (bt s (j : Int))) := by
 intro d
 induction d with
 | zero =>
  intro k i hd hi hk
  obtain ⟨k, rfl⟩ : ∃ m, k = m + 1 := ⟨k - 1, by omega⟩
  simp only [dI.l0]
  rw [if_neg (by omega)]
  rfl
 | succ d ih =>
  intro k i hd hi hk
  obtain ⟨k, rfl⟩ : ∃ m, k = m + 1 := ⟨k - 1, by omega⟩
  simp only [dI.l0, List.range'_succ, List.all_cons]
  rw [if_pos (by omega), if_pos (by omega), ZK]
  cases h : okc (bt s (i : Int)) with
  | true =>
   rw [if_pos rfl, WX (show i < s.size by omega) hs, ih k (i + 1) (by omega) (by omega) (by omega)]
   rfl
  | false =>
   rw [if_neg (by simp)]
   rfl
theorem Ka (s : ByteArray) : dI.f 10 s = some (wI s) := by
 unfold dI.f wI
 by_cases h1 : (s.size : Int) < 1
 ·rw [if_pos h1]
  simp only [dI.j0]
  rw [if_pos trivial, show decide (1 ≤ s.size) = false from decide_eq_false (by omega)]
  rfl
 rw [if_neg h1]
 simp only [dI.j0]
 by_cases h2 : (s.size : Int) > 8
 ·rw [if_pos (decide_eq_true h2), show decide (s.size ≤ 8) = false from decide_eq_false (by omega)]
  simp
 rw [if_neg (by simpa using h2), show (0 : Int) = ((0 : Nat) : Int) from rfl, Yk s (by omega) s.size 9 0 (by omega) (by omega) (by omega)]
 rw [show decide (s.size ≤ 8) = true from decide_eq_true (by omega), show decide (1 ≤ s.size) = true from decide_eq_true (by omega)]
 rfl
def o5.f (k : Nat) (a0 : ByteArray) : Option (Bool) := (dI.f k a0).bind fun a => (some (!a))
theorem o5.calls (k : Nat) (a0 : ByteArray) (r : Bool) (w : World) (h : o5.f k a0 = some r) :
  Calls Try.prog 76 #[.string a0] w fun e w' => e = .returned (.bool r) ∧ kY w w' := by
 unfold o5.f at h
 have H := h
 clear h
 obtain ⟨l5, A2, H⟩ := bd H
 obtain rfl := Option.some.inj H
 repeat clear H
 go_enter Try.func76, Try.ntmps76
 go_wp2_with (first | ((with_reducible refine gC 77 ?_); refine cQ (some 4) Try.func77 (dI.calls k a0 l5 _ A2.out) ?_; rintro w' ⟨nd, rfl⟩))
 go_ret
 exact ⟨by first | rfl | (simp; done) | (simp [*]; done), gR⟩
theorem Fu (s : ByteArray) : o5.f 10 s = some (!wI s) := by
 unfold o5.f
 rw [Ka]
 rfl
def iY.f (l0 : List ByteArray) : Option (Bool) := some (l0.any fun s => !wI s)
theorem iY.calls (A0 : Option Addr) (c0 : Nat) (l0 : List ByteArray) (r : Bool) (w : World) (sJ : Kd.C Kd.string w A0 l0.length l0) (yR : l0.length ≤ c0) (h : iY.f l0 = some r) :
  Calls Try.prog 75 #[.slice A0 l0.length c0, .func (.func 76) #[] #[]] w fun e w' => e = .returned (.bool r) ∧ Below w.heap.size w w' := by
 obtain rfl := Option.some.inj h
 refine FY 76 #[] (enters_of Try.func76 (by kernel_rfl) rfl) (fun s => !wI s) A0 c0 l0 w sJ (fun W s hb => ?_)
 exact (o5.calls 10 s (!wI s) W (Fu s)).mono fun e w' ⟨he, hd⟩ => ⟨he, xH hb hb.size hd.below⟩
theorem Bn (s : ByteArray) (gb : Nat) (A1 : Option Addr) (c1 : Nat) (l1 : List ByteArray) (W : World) (FF : l1.length ≤ c1) (hcell : W.cell? ⟨gb, 0, none⟩ = some (.slice A1 l1.length c1)) (FG : Kd.C Kd.string W A1 l1.length l1) :
  Calls Try.prog 114 #[.string s, .pointer (some ⟨gb, 0, none⟩)] W fun e w' => e = .returned (.bool (hasS l1 s)) ∧ kY W w' := by
 have IL := am FG
 have LA := am FF
 have HK := am (JJ l1 s (VG FG))
 clear FG FF
 generalize hasS l1 s = b at HK
 go_enter Try.func114, Try.ntmps114
 go_wp2_with ((go_at_call 81; refine (bG.calls (l1.length + 1) A1 c1 l1 s b _ ?s1 LA.1 HK.out).mono ?_; (case s1 => repeat (first | exact IL.1 | (with_reducible refine Kd.mO ?_ _) | (with_reducible refine Kd.mP ?_ _) | (with_reducible refine Kd.oD ?_))); rintro e w' ⟨rfl, ⟨nd, rfl⟩⟩))
 go_ret
 exact ⟨rfl, gR⟩
def q9.f (l0 : List ByteArray) (l1 : List ByteArray) : Option (Bool) := some (l0.any (hasS l1))
theorem q9.calls (A0 : Option Addr) (c0 : Nat) (l0 : List ByteArray) (A1 : Option Addr) (c1 : Nat) (l1 : List ByteArray) (r : Bool) (w : World) (sJ : Kd.C Kd.string w A0 l0.length l0) (yR : l0.length ≤ c0) (FG : Kd.C Kd.string w A1 l1.length l1) (FF : l1.length ≤ c1) (h : q9.f l0 l1 = some r) :
  Calls Try.prog 78 #[.slice A0 l0.length c0, .slice A1 l1.length c1] w fun e w' => e = .returned (.bool r) ∧ Below w.heap.size w w' := by
 obtain rfl := Option.some.inj h
 clear h
 have HW : aC (Below w.heap.size w (w.alloc (.cells #[.slice A1 l1.length c1] 23 (0, 0)))) := ⟨(Below.refl _ _).alloc (Nat.le_refl _) _⟩
 have HC : aC (Calls Try.prog 75 #[.slice A0 l0.length c0, .func (.func 114) #[] #[.pointer (some ⟨w.heap.size, 0, none⟩)]] (w.alloc (.cells #[.slice A1 l1.length c1] 23 (0, 0))) fun e w' => e = .returned (.bool (l0.any (hasS l1))) ∧ Below (w.alloc (.cells #[.slice A1 l1.length c1] 23 (0, 0))).heap.size (w.alloc (.cells #[.slice A1 l1.length c1] 23 (0, 0))) w') := by
  refine ⟨FY 114 _ (enters_of Try.func114 (by kernel_rfl) rfl) (hasS l1) A0 c0 l0 _ (Kd.aX sJ HW.out) ?_⟩
  intro W s hb
  have hcell : W.cell? ⟨w.heap.size, 0, none⟩ = some (.slice A1 l1.length c1) := by
   rw [hb.cell (p := ⟨w.heap.size, 0, none⟩) (by simp)]
   simp
  exact (Bn s w.heap.size A1 c1 l1 W FF hcell (Kd.aX (Kd.aX FG HW.out) hb)).mono fun e w' ⟨he, hd⟩ => ⟨he, xH hb hb.size hd.below⟩
 generalize l0.any (hasS l1) = b at HC
 clear sJ yR FG FF
 go_enter Try.func78, Try.ntmps78
 go_wp2_with ((go_at_call 75; refine HC.out.mono ?_; rintro e w' ⟨rfl, hb'⟩))
 go_ret
 exact ⟨rfl, xH HW.out HW.out.size hb'⟩
mutual
def aQ.j0 : Nat → Bool → List ByteArray → List (S56) → Option (Bool)
 | 0, _, _, _ => none
 | k + 1, b, c, a => if b = true then (some false) else (aQ.l0 k a (a.length : Int) 0 c a)
def aQ.l0 : Nat → List (S56) → Int → Int → List ByteArray → List (S56) → Option (Bool)
 | 0, _, _, _, _, _ => none
 | k + 1, b, e, a, c, d => if a < e then (if 0 ≤ a then (if a < (b.length : Int) then ((dI.f k ((aA b a).f0)).bind fun g => (if g = true then (if a > 0 then (if 0 ≤ (wrap64 (a - 1)) then (if (wrap64 (a - 1)) < (d.length : Int) then (if ((Op.bytesLess (((aA d (wrap64 (a - 1))).f0).toList) (((aA b a).f0).toList)) = true) then ((gY.f k ((aA b a).f2) c).bind fun h => (if h = true then ((gY.f k ((aA b a).f1) ((aA b a).f2)).bind fun i => (aQ.j2 k a b e a (!i) c d ((aA b a).f0) ((aA b a).f1) ((aA b a).f2))) else (aQ.j2 k a b e a true c d ((aA b a).f0) ((aA b a).f1) ((aA b a).f2)))) else (aQ.j2 k a b e a true c d ((aA b a).f0) ((aA b a).f1) ((aA b a).f2))) else (none)) else (none)) else ((gY.f k ((aA b a).f2) c).bind fun j => (if j = true then ((gY.f k ((aA b a).f1) ((aA b a).f2)).bind fun l => (aQ.j2 k a b e a (!l) c d ((aA b a).f0) ((aA b a).f1) ((aA b a).f2))) else (aQ.j2 k a b e a true c d ((aA b a).f0) ((aA b a).f1) ((aA b a).f2))))) else (aQ.j2 k a b e a true c d ((aA b a).f0) ((aA b a).f1) ((aA b a).f2)))) else (none)) else (none)) else (some true)
def aQ.j2 : Nat → Int → List (S56) → Int → Int → Bool → List ByteArray → List (S56) → ByteArray → List ByteArray → List ByteArray → Option (Bool)
 | 0, _, _, _, _, _, _, _, _, _, _ => none
 | k + 1, a, d, e, f, g, h, b, i, j, l => if g = true then (some false) else (if 0 ≤ a then (if a ≤ (b.length : Int) then ((some (b.take (a : Int).toNat : List (S56))).bind fun c => (aQ.l1 k d e f c (c.length : Int) 0 h b i j l)) else (none)) else (none))
def aQ.l1 : Nat → List (S56) → Int → Int → List (S56) → Int → Int → List ByteArray → List (S56) → ByteArray → List ByteArray → List ByteArray → Option (Bool)
 | 0, _, _, _, _, _, _, _, _, _, _, _ => none
 | k + 1, c, d, e, b, g, a, h, i, l, j, m => if a < g then (if 0 ≤ a then (if a < (b.length : Int) then ((q9.f j ((aA b a).f1)).bind fun n => (if n = true then (some false) else (aQ.l1 k c d e b g (wrap64 (a + 1)) h i l j m))) else (none)) else (none)) else (aQ.l0 k c d (wrap64 (e + 1)) h i)
end
def aQ.f (k : Nat) (bF : List ByteArray) (aN : List (S56)) : Option (Bool) := if (bF.length : Int) > 8 then (aQ.j0 k true bF aN) else (if (aN.length : Int) > 5 then (aQ.j0 k true bF aN) else ((gY.f k bF bF).bind fun a => (if a = true then ((iY.f bF).bind fun b => (aQ.j0 k b bF aN)) else (aQ.j0 k true bF aN))))
def aQ.T6 : Bool × List (List Nat × List Nat) := (true, [([], []), ([0], [0]), ([1], [1]), ([2], [2]), ([3, 2], [3]), ([4], [4]), ([5, 4], [4, 5]), ([6, 4, 4], [4, 6]), ([7], [7]), ([8, 7], [7, 8]), ([7], [7]), ([10, 7], [7, 10]), ([9, 11, 7], [7, 9, 11]), ([12, 7], [7, 12]), ([13, 7], [7, 13]), ([7], [7]), ([15, 7], [7, 15]), ([14, 16, 7], [7, 14, 16]), ([7, 17, 4], [4, 7, 17]), ([4, 18], [4, 18]), ([19, 7], [19]), ([20], [20]), ([21, 20], [20, 21]), ([20], [20]), ([23, 20], [20, 23]), ([22, 24, 20, 20], [20, 22, 24]), ([25, 20], [20, 25]), ([20, 26], [20, 26]), ([27, 25], [27]), ([28], [28]), ([29, 28], [28, 29]), ([28], [28]), ([31, 28], [28, 31]), ([30, 32, 28, 28], [28, 30, 32]), ([33, 28], [28, 33]), ([28, 34], [28, 34])])
def aQ.B6 : List Nat := [0, 1, 3, 7, 15, 31, 63, 127, 255, 511, 255, 1279, 4095, 8191, 16383, 255, 33023, 131071, 262143, 524287, 1048575, 2097151, 4194303, 2097151, 10485759, 33554431, 67108863, 134217727, 268435455, 536870911, 1073741823, 536870911, 2684354559, 8589934591, 17179869183, 34359738367]
theorem aQ.tab6 : rtab .any (opsOf Try.f24 6) = aQ.T6 := by kernel_rfl
theorem aQ.AL : kP aQ.T6.2 aQ.B6 = true := by kernel_rfl
theorem aQ.calls (k : Nat) (eU : Option Addr) (eY : Nat) (bF : List ByteArray) (fG : Option Addr) (eQ : Nat) (aN : List (S56)) (r : Bool) (w : World) (iG : Kd.C Kd.string w eU bF.length bF) (iD : bF.length ≤ eY) (iC : Kd.C k56 w fG aN.length aN) (iE : aN.length ≤ eQ) (h : aQ.f k bF aN = some r) :
  Calls Try.prog 24 #[.agg #[.slice eU bF.length eY, .slice fG aN.length eQ]] w fun e w' => e = .returned (.bool r) ∧ Below w.heap.size w w' := by
 have hu31 := Try.underlying31
 have hu56 := Try.underlying56
 obtain ⟨dY, dX⟩ := mZ2 iG iD
 obtain ⟨cU, f4⟩ := mZ2 iC iE
 clear iG iD iC iE
 have HB := am (Below.refl w.heap.size w)
 unfold aQ.f at h
 have H := h
 clear h
 have zZ := am H
 clear H
 go_enter Try.func24, Try.ntmps24
 go_upto_region 1 with (first | ((with_reducible refine gD 1 ?_); (try (refine mD (by rfl) ?_; dsimp only)); refine bX 1 #[.slice eU bF.length eY, .slice fG aN.length eQ] 31 ?_; intro aT hg w3 hbox hb; have a6 := am hbox; have g5 := am (oS : w.heap.size ≤ aT); have iJ := g5; replace HB := bS eG hb; clear hb hbox hg))
 (try simp only [Act.put, List.setIfInBounds_toArray, List.set_cons_zero, List.set_cons_succ])
 go_cut [29] (fun v29 wc => ∃ (kq : Nat) (Ui : Bool), v29 = .bool Ui ∧ aC (aQ.j0 kq Ui bF aN = some r) ∧ aC (kq ≤ k) ∧ aC (wc.heap[aT]? = some (.cells #[(.slice eU bF.length eY), (.slice fG aN.length eQ)] 31 (0, 0))) ∧ aC (Below w.heap.size w wc))
 case first =>
  have H := zZ.1
  clear zZ
  by_cases c4 : (bF.length : Int) > 8
  ·rw [if_pos c4] at H
   have yF : decide (8 < (bF.length : Int)) = true := decide_eq_true c4
   have Le : decide (8 < bF.length) = true := decide_eq_true (by omega)
   clear c4
   (first | rw [yF] | (simp only [q8, uS]; rw [yF]) | skip)
   have H' := am H
   repeat clear H
   have Z5 := cz2 a6
   go_wp2
   go_meet
   exact ⟨_, (true), dM, H', ⟨by first | omega | exact Nat.le_refl _⟩, ⟨rB a6.1⟩, ⟨eE⟩⟩
  rw [if_neg c4] at H
  have yF : decide (8 < (bF.length : Int)) = false := decide_eq_false c4
  have Le : decide (8 < bF.length) = false := decide_eq_false (by omega)
  clear c4
  (first | rw [yF] | (simp only [q8, uS]; rw [yF]) | skip)
  by_cases c6 : (aN.length : Int) > 5
  ·rw [if_pos c6] at H
   have RQ : decide (5 < (aN.length : Int)) = true := decide_eq_true c6
   have Bi : decide (5 < aN.length) = true := decide_eq_true (by omega)
   clear c6
   have H' := am H
   repeat clear H
   have Z7 := cz2 a6
   go_wp2
   go_meet
   exact ⟨_, (true), dM, H', ⟨by first | omega | exact Nat.le_refl _⟩, ⟨rB a6.1⟩, ⟨eE⟩⟩
  rw [if_neg c6] at H
  have RQ : decide (5 < (aN.length : Int)) = false := decide_eq_false c6
  have Bi : decide (5 < aN.length) = false := decide_eq_false (by omega)
  clear c6
  obtain ⟨lD, A8, H⟩ := bd H
  refine tC H ?_ ?_ <;> clear H <;> intro c9 H <;> subst c9
  ·obtain ⟨eF, um, H⟩ := bd H
   have H' := am H
   repeat clear H
   have Uq := cz2 a6
   go_wp2_with (first | (go_at_call 74; refine cM (gY.calls k _ _ bF _ _ bF true _ (pB dY) dX.1 (pB dY) dX.1 A8.out) ?_; rintro w' ⟨nd, rfl⟩) | (go_at_call 75; refine cM (iY.calls _ _ bF  eF _ (pC (Kd.aX dY.1 eE)) dX.1 um.out) ?_; rintro w12 hb; replace a6 := bB aW hb; replace HB := bS eE hb; clear hb))
   go_meet
   exact ⟨_, (eF), dM, H', ⟨by first | omega | exact Nat.le_refl _⟩, ⟨rB a6.1⟩, ⟨eE⟩⟩
  have H' := am H
  repeat clear H
  have La := cz2 a6
  go_wp2_with (first | (go_at_call 74; refine cM (gY.calls k _ _ bF _ _ bF false _ (pB dY) dX.1 (pB dY) dX.1 A8.out) ?_; rintro w' ⟨nd, rfl⟩))
  go_meet
  exact ⟨_, (true), dM, H', ⟨by first | omega | exact Nat.le_refl _⟩, ⟨rB a6.1⟩, ⟨eE⟩⟩
 clear zZ
 obtain ⟨kq, Ui, rfl, HA, HJ1, a6, HB⟩ := hcut
 cases kq with
 | zero => exact absurd HA.out (by simp [aQ.j0])
 | succ kj1 =>
  have H := HA.out
  clear HA
  simp only [aQ.j0] at H
  refine tC H ?_ ?_ <;> clear H <;> intro Mz H <;> subst Mz
  ·obtain rfl := Option.some.inj H
   repeat clear H
   go_wp2
   go_ret
   exact ⟨eR, eE⟩
  ·have H' := am H
   repeat clear H
   have Z15 := cz2 a6
   go_wp2
   go_loopg [33] kj1 (fun kq v33 w' => ∃ (fD : Int), v33 = .int .i64 fD ∧ aC (aQ.l0 kq aN (aN.length : Int) fD bF aN = some r) ∧ aC (kq ≤ kj1) ∧ aC (w'.heap[aT]? = some (.cells #[(.slice eU bF.length eY), (.slice fG aN.length eQ)] 31 (0, 0))) ∧ aC (Below w.heap.size w w'))
   case atStart => exact ⟨(0), dM, H', ⟨Nat.le_refl _⟩, ⟨rB a6.1⟩, ⟨eE⟩⟩
   case round =>
    clear H'
    try clear Mz
    try clear Z15
    obtain ⟨fD, rfl, HA, HK2, a6, HB⟩ := hrel
    cases gk with
    | zero => exact absurd HA.out (by simp [aQ.l0])
    | succ k2 =>
     have H := HA.out
     clear HA
     simp only [aQ.l0] at H
     refine ic H ?_ ?_ <;> clear H <;> intro JG H
     ·obtain ⟨Qt, H⟩ := cN H
      obtain ⟨CS, H⟩ := cN H
      have jc := am H
      clear H
      obtain ⟨kD, r7, r9, r8, rA, tZ, nE, nF, nH, mZ, pK, pL, tU, HZ, I2⟩ := aT56 cU HB fD
      cases tZ
      go_upto_region 6 with (first | ((with_reducible refine gD 4 ?_); (try (refine mD (by rfl) ?_; dsimp only)); refine bX 4 #[.string (⟨#[]⟩ : ByteArray), .slice none 0 0, .slice none 0 0] 56 ?_; intro BL hg Mu hbox hb; have iB := am hbox; have xe := am (I1 : w.heap.size ≤ BL); have N8 := xe; replace HB := bS eE hb; have vU := nL aW hg; have PM := nG aW hg; replace a6 := bB aW hb; clear hb hbox hg; have Z21 := nZ1 PM vU; have zl := cz3 iB))
      (try simp only [Act.put, List.setIfInBounds_toArray, List.set_cons_zero, List.set_cons_succ])
      go_cut [73] (fun v73 wc => ∃ (kq : Nat) (Gn : Bool), v73 = .bool Gn ∧ aC (aQ.j2 kq fD aN (aN.length : Int) fD Gn bF aN ((aA aN fD).f0) ((aA aN fD).f1) ((aA aN fD).f2) = some r) ∧ aC (kq ≤ k2) ∧ aC (wc.heap[aT]? = some (.cells #[(.slice eU bF.length eY), (.slice (some kD) aN.length eQ)] 31 (0, 0))) ∧ aC (wc.heap[BL]? = some (.cells #[.string ((aA aN fD).f0), (.slice r7 ((aA aN fD).f1).length r9), (.slice r8 ((aA aN fD).f2).length rA)] 56 (0, 0))) ∧ aC (Below w.heap.size w wc))
      case first =>
       have H := jc.1
       clear jc
       obtain ⟨fT, Gs, H⟩ := bd H
       refine tC H ?_ ?_ <;> clear H <;> intro Ej H <;> subst Ej
       ·by_cases cf : fD > 0
        ·rw [if_pos cf] at H
         have WF : decide (0 < fD) = true := decide_eq_true cf
         clear cf
         (first | rw [WF] | (simp only [q8, uS]; rw [WF]) | skip)
         obtain ⟨ji26, hji26⟩ : ∃ j_ : Int, (wrap64 (fD - 1)) = j_ := ⟨_, rfl⟩
         replace H : (if 0 ≤ (ji26) then (if (ji26) < (aN.length : Int) then (if ((Op.bytesLess (((aA aN (ji26)).f0).toList) (((aA aN fD).f0).toList)) = true) then ((gY.f k2 ((aA aN fD).f2) bF).bind fun lJ => (if lJ = true then ((gY.f k2 ((aA aN fD).f1) ((aA aN fD).f2)).bind fun yT => (aQ.j2 k2 fD aN (aN.length : Int) fD (!yT) bF aN ((aA aN fD).f0) ((aA aN fD).f1) ((aA aN fD).f2))) else (aQ.j2 k2 fD aN (aN.length : Int) fD true bF aN ((aA aN fD).f0) ((aA aN fD).f1) ((aA aN fD).f2)))) else (aQ.j2 k2 fD aN (aN.length : Int) fD true bF aN ((aA aN fD).f0) ((aA aN fD).f1) ((aA aN fD).f2))) else (none)) else (none)) = some r := by first | (rw [hji26] at H; exact H) | (simp only [hji26] at H ⊢; exact H)
         (try rw [hji26] at Gs)
         have hji26w : (IntKind.i64.wrap (fD - 1)) = ji26 := (q8 _).trans hji26
         obtain ⟨Be, H⟩ := cN H
         obtain ⟨a0F, H⟩ := cN H
         refine tC H ?_ ?_ <;> clear H <;> intro ck H
         ·obtain ⟨lJ, Nk, H⟩ := bd H
          refine tC H ?_ ?_ <;> clear H <;> intro ur H <;> subst ur
          ·obtain ⟨yT, un, H⟩ := bd H
           have H' := am H
           repeat clear H
           try go_wp2
           obtain ⟨wa, eW_⟩ := eW3 Mu BL (.string ((aA aN fD).f0)) (.slice r7 ((aA aN fD).f1).length r9) (.slice r8 ((aA aN fD).f2).length rA)
           rw [← eW_]
           replace a6 := uF3 eW_ a6 vU
           replace iB := uP3 eW_ iB
           replace HB := uC3 eW_ HB N8
           clear eW_
           replace a6 := BD a6
           replace iB := BD iB
           replace HB := am (aV HB.1)
           obtain ⟨CP, GM, H0, GN, H3, MI, kM, kN, kO, uR, pO, pP, qQ, y8, tX, EB, Fz, Gb⟩ := qJ cU HB (ji26)
           obtain rfl : kD = CP := (by injection MI)
           refine sT [] 36 (uB3 iB (uB2 a6 (uBx HB kM (uBx HB kN (uAx HB kO))))) (fun hHeld => ?_)
           refine eO aQ.tab6 aQ.AL (fun HT_ HW_ => ?_)
           generalize wa.drew = w34 at a6 iB HB qQ tX uR pO pP hHeld ⊢
           refine pU1 0 ?_
           refine tK8 1 (some 39) ?_
           refine oN 2 (some 40) fun K hK => ?_
           refine gQ Try.func77 (dI.calls k2 ((aA aN fD).f0) true _ Gs.out) ?_
           rintro w' ⟨nd, rfl⟩
           refine nK hK (uB3 iB (uB2 a6 (uBx HB kM (uBx HB kN (uAx HB kO))))).1 fun hHeld => ?_
           clear hK K
           refine pU8 3 4 5 6 7 8 10 11 ?_
           refine pU1 15 ?_
           refine tK8 9 (some 47) ?_
           refine pU2 12 13 ?_
           refine tK8 14 (some 52) ?_
           refine tK8 16 (some 54) ?_
           refine pU6 17 18 19 20 21 23 ?_
           refine tK8 22 (some 60) ?_
           refine tK8 24 (some 62) ?_
           refine oN 25 (some 63) fun K hK => ?_
           refine gQ Try.func74 (gY.calls k2 _ _ ((aA aN fD).f2) _ _ bF true _ (pC (Kd.aX pL.1 E4)) tU.1 (pC (Kd.aX dY.1 E4)) dX.1 Nk.out) ?_
           rintro w' ⟨nd, rfl⟩
           refine nK hK (uB3 iB (uB2 a6 (uBx HB kM (uBx HB kN (uAx HB kO))))).1 fun hHeld => ?_
           clear hK K
           refine pU5 26 27 28 29 31 ?_
           refine tK8 30 (some 68) ?_
           refine tK8 32 (some 70) ?_
           refine oN 33 (some 71) fun K hK => ?_
           refine gQ Try.func74 (gY.calls k2 _ _ ((aA aN fD).f1) _ _ ((aA aN fD).f2) yT _ (pC (Kd.aX mZ.1 E4)) pK.1 (pC (Kd.aX pL.1 E4)) tU.1 un.out) ?_
           rintro w' ⟨nd, rfl⟩
           refine nK hK (uB3 iB (uB2 a6 (uBx HB kM (uBx HB kN (uAx HB kO))))).1 fun hHeld => ?_
           clear hK K
           refine pU2 34 35 ?_
           refine dN ?_
           try go_wp2
           go_meet
           case rel => exact ⟨_, (!yT), dM, H', ⟨by have := HJ1.out; have := HK2.out; first | omega | exact Nat.le_refl _⟩, ⟨rB a6.1⟩, ⟨rB iB.1⟩, ⟨E4⟩⟩
          ·have H' := am H
           repeat clear H
           try go_wp2
           obtain ⟨w35, eW_⟩ := eW3 Mu BL (.string ((aA aN fD).f0)) (.slice r7 ((aA aN fD).f1).length r9) (.slice r8 ((aA aN fD).f2).length rA)
           rw [← eW_]
           replace a6 := uF3 eW_ a6 vU
           replace iB := uP3 eW_ iB
           replace HB := uC3 eW_ HB N8
           clear eW_
           replace a6 := BD a6
           replace iB := BD iB
           replace HB := am (aV HB.1)
           obtain ⟨CP, GM, H0, GN, H3, MI, kM, kN, kO, uR, pO, pP, qQ, y8, tX, EB, Fz, Gb⟩ := qJ cU HB (ji26)
           obtain rfl : kD = CP := (by injection MI)
           refine sT [] 36 (uB3 iB (uB2 a6 (uBx HB kM (uBx HB kN (uAx HB kO))))) (fun hHeld => ?_)
           refine eO aQ.tab6 aQ.AL (fun HT_ HW_ => ?_)
           generalize w35.drew = uf at a6 iB HB qQ tX uR pO pP hHeld ⊢
           refine pU1 0 ?_
           refine tK8 1 (some 39) ?_
           refine oN 2 (some 40) fun K hK => ?_
           refine gQ Try.func77 (dI.calls k2 ((aA aN fD).f0) true _ Gs.out) ?_
           rintro w' ⟨nd, rfl⟩
           refine nK hK (uB3 iB (uB2 a6 (uBx HB kM (uBx HB kN (uAx HB kO))))).1 fun hHeld => ?_
           clear hK K
           refine pU8 3 4 5 6 7 8 10 11 ?_
           refine pU1 15 ?_
           refine tK8 9 (some 47) ?_
           refine pU2 12 13 ?_
           refine tK8 14 (some 52) ?_
           refine tK8 16 (some 54) ?_
           refine pU6 17 18 19 20 21 23 ?_
           refine tK8 22 (some 60) ?_
           refine tK8 24 (some 62) ?_
           refine oN 25 (some 63) fun K hK => ?_
           refine gQ Try.func74 (gY.calls k2 _ _ ((aA aN fD).f2) _ _ bF false _ (pC (Kd.aX pL.1 E4)) tU.1 (pC (Kd.aX dY.1 E4)) dX.1 Nk.out) ?_
           rintro w' ⟨nd, rfl⟩
           refine nK hK (uB3 iB (uB2 a6 (uBx HB kM (uBx HB kN (uAx HB kO))))).1 fun hHeld => ?_
           clear hK K
           refine pU3 26 27 28 ?_
           refine pV6 29 30 31 32 33 34 ?_
           refine pU1 35 ?_
           refine dN ?_
           try go_wp2
           go_meet
           case rel => exact ⟨_, (true), dM, H', ⟨by have := HJ1.out; have := HK2.out; first | omega | exact Nat.le_refl _⟩, ⟨rB a6.1⟩, ⟨rB iB.1⟩, ⟨E4⟩⟩
         ·have H' := am H
          repeat clear H
          try go_wp2
          obtain ⟨ug, eW_⟩ := eW3 Mu BL (.string ((aA aN fD).f0)) (.slice r7 ((aA aN fD).f1).length r9) (.slice r8 ((aA aN fD).f2).length rA)
          rw [← eW_]
          replace a6 := uF3 eW_ a6 vU
          replace iB := uP3 eW_ iB
          replace HB := uC3 eW_ HB N8
          clear eW_
          replace a6 := BD a6
          replace iB := BD iB
          replace HB := am (aV HB.1)
          obtain ⟨CP, GM, H0, GN, H3, MI, kM, kN, kO, uR, pO, pP, qQ, y8, tX, EB, Fz, Gb⟩ := qJ cU HB (ji26)
          obtain rfl : kD = CP := (by injection MI)
          refine sT [] 36 (uB3 iB (uB2 a6 (uBx HB kM (uBx HB kN (uAx HB kO))))) (fun hHeld => ?_)
          refine eO aQ.tab6 aQ.AL (fun HT_ HW_ => ?_)
          generalize ug.drew = uh at a6 iB HB qQ tX uR pO pP hHeld ⊢
          refine pU1 0 ?_
          refine tK8 1 (some 39) ?_
          refine oN 2 (some 40) fun K hK => ?_
          refine gQ Try.func77 (dI.calls k2 ((aA aN fD).f0) true _ Gs.out) ?_
          rintro w' ⟨nd, rfl⟩
          refine nK hK (uB3 iB (uB2 a6 (uBx HB kM (uBx HB kN (uAx HB kO))))).1 fun hHeld => ?_
          clear hK K
          refine pU8 3 4 5 6 7 8 10 11 ?_
          refine pU1 15 ?_
          refine tK8 9 (some 47) ?_
          refine pU2 12 13 ?_
          refine tK8 14 (some 52) ?_
          refine tK8 16 (some 54) ?_
          refine pU4 17 18 19 20 ?_
          refine pV6 21 22 23 24 25 26 ?_
          refine pU2 27 28 ?_
          refine pV6 29 30 31 32 33 34 ?_
          refine pU1 35 ?_
          refine dN ?_
          try go_wp2
          go_meet
          case rel => exact ⟨_, (true), dM, H', ⟨by have := HJ1.out; have := HK2.out; first | omega | exact Nat.le_refl _⟩, ⟨rB a6.1⟩, ⟨rB iB.1⟩, ⟨E4⟩⟩
        ·rw [if_neg cf] at H
         have WF : decide (0 < fD) = false := decide_eq_false cf
         clear cf
         (first | rw [WF] | (simp only [q8, uS]; rw [WF]) | skip)
         obtain ⟨xJ, A39, H⟩ := bd H
         refine tC H ?_ ?_ <;> clear H <;> intro c40 H <;> subst c40
         ·obtain ⟨dJ, A41, H⟩ := bd H
          have H' := am H
          repeat clear H
          try go_wp2
          obtain ⟨w42, eW_⟩ := eW3 Mu BL (.string ((aA aN fD).f0)) (.slice r7 ((aA aN fD).f1).length r9) (.slice r8 ((aA aN fD).f2).length rA)
          rw [← eW_]
          replace a6 := uF3 eW_ a6 vU
          replace iB := uP3 eW_ iB
          replace HB := uC3 eW_ HB N8
          clear eW_
          replace a6 := BD a6
          replace iB := BD iB
          replace HB := am (aV HB.1)
          refine sT [] 36 (uB3 iB (uA2 a6)) (fun hHeld => ?_)
          refine eO aQ.tab6 aQ.AL (fun HT_ HW_ => ?_)
          generalize w42.drew = w43 at a6 iB HB hHeld ⊢
          refine pU1 0 ?_
          refine tK5 1 (some 39) ?_
          refine oN 2 (some 40) fun K hK => ?_
          refine gQ Try.func77 (dI.calls k2 ((aA aN fD).f0) true _ Gs.out) ?_
          rintro w' ⟨nd, rfl⟩
          refine nK hK (uB3 iB (uA2 a6)).1 fun hHeld => ?_
          clear hK K
          refine pU5 3 4 5 6 7 ?_
          refine pV8 8 9 10 11 12 13 14 15 ?_
          refine pV2 16 17 ?_
          refine pU5 18 19 20 21 23 ?_
          refine tK5 22 (some 60) ?_
          refine tK5 24 (some 62) ?_
          refine oN 25 (some 63) fun K hK => ?_
          refine gQ Try.func74 (gY.calls k2 _ _ ((aA aN fD).f2) _ _ bF true _ (pC (Kd.aX pL.1 E4)) tU.1 (pC (Kd.aX dY.1 E4)) dX.1 A39.out) ?_
          rintro w' ⟨nd, rfl⟩
          refine nK hK (uB3 iB (uA2 a6)).1 fun hHeld => ?_
          clear hK K
          refine pU5 26 27 28 29 31 ?_
          refine tK5 30 (some 68) ?_
          refine tK5 32 (some 70) ?_
          refine oN 33 (some 71) fun K hK => ?_
          refine gQ Try.func74 (gY.calls k2 _ _ ((aA aN fD).f1) _ _ ((aA aN fD).f2) dJ _ (pC (Kd.aX mZ.1 E4)) pK.1 (pC (Kd.aX pL.1 E4)) tU.1 A41.out) ?_
          rintro w' ⟨nd, rfl⟩
          refine nK hK (uB3 iB (uA2 a6)).1 fun hHeld => ?_
          clear hK K
          refine pU2 34 35 ?_
          refine dN ?_
          try go_wp2
          go_meet
          case rel => exact ⟨_, (!dJ), dM, H', ⟨by have := HJ1.out; have := HK2.out; first | omega | exact Nat.le_refl _⟩, ⟨rB a6.1⟩, ⟨rB iB.1⟩, ⟨E4⟩⟩
         ·have H' := am H
          repeat clear H
          try go_wp2
          obtain ⟨w44, eW_⟩ := eW3 Mu BL (.string ((aA aN fD).f0)) (.slice r7 ((aA aN fD).f1).length r9) (.slice r8 ((aA aN fD).f2).length rA)
          rw [← eW_]
          replace a6 := uF3 eW_ a6 vU
          replace iB := uP3 eW_ iB
          replace HB := uC3 eW_ HB N8
          clear eW_
          replace a6 := BD a6
          replace iB := BD iB
          replace HB := am (aV HB.1)
          refine sT [] 36 (uB3 iB (uA2 a6)) (fun hHeld => ?_)
          refine eO aQ.tab6 aQ.AL (fun HT_ HW_ => ?_)
          generalize w44.drew = w45 at a6 iB HB hHeld ⊢
          refine pU1 0 ?_
          refine tK5 1 (some 39) ?_
          refine oN 2 (some 40) fun K hK => ?_
          refine gQ Try.func77 (dI.calls k2 ((aA aN fD).f0) true _ Gs.out) ?_
          rintro w' ⟨nd, rfl⟩
          refine nK hK (uB3 iB (uA2 a6)).1 fun hHeld => ?_
          clear hK K
          refine pU5 3 4 5 6 7 ?_
          refine pV8 8 9 10 11 12 13 14 15 ?_
          refine pV2 16 17 ?_
          refine pU5 18 19 20 21 23 ?_
          refine tK5 22 (some 60) ?_
          refine tK5 24 (some 62) ?_
          refine oN 25 (some 63) fun K hK => ?_
          refine gQ Try.func74 (gY.calls k2 _ _ ((aA aN fD).f2) _ _ bF false _ (pC (Kd.aX pL.1 E4)) tU.1 (pC (Kd.aX dY.1 E4)) dX.1 A39.out) ?_
          rintro w' ⟨nd, rfl⟩
          refine nK hK (uB3 iB (uA2 a6)).1 fun hHeld => ?_
          clear hK K
          refine pU3 26 27 28 ?_
          refine pV6 29 30 31 32 33 34 ?_
          refine pU1 35 ?_
          refine dN ?_
          try go_wp2
          go_meet
          case rel => exact ⟨_, (true), dM, H', ⟨by have := HJ1.out; have := HK2.out; first | omega | exact Nat.le_refl _⟩, ⟨rB a6.1⟩, ⟨rB iB.1⟩, ⟨E4⟩⟩
       ·have H' := am H
        repeat clear H
        try go_wp2
        obtain ⟨w46, eW_⟩ := eW3 Mu BL (.string ((aA aN fD).f0)) (.slice r7 ((aA aN fD).f1).length r9) (.slice r8 ((aA aN fD).f2).length rA)
        rw [← eW_]
        replace a6 := uF3 eW_ a6 vU
        replace iB := uP3 eW_ iB
        replace HB := uC3 eW_ HB N8
        clear eW_
        replace a6 := BD a6
        replace iB := BD iB
        replace HB := am (aV HB.1)
        refine sT [] 36 (uA3 iB) (fun hHeld => ?_)
        refine eO aQ.tab6 aQ.AL (fun HT_ HW_ => ?_)
        generalize w46.drew = w47 at a6 iB HB hHeld ⊢
        refine pU1 0 ?_
        refine tK3 1 (some 39) ?_
        refine oN 2 (some 40) fun K hK => ?_
        refine gQ Try.func77 (dI.calls k2 ((aA aN fD).f0) false _ Gs.out) ?_
        rintro w' ⟨nd, rfl⟩
        refine nK hK (uA3 iB).1 fun hHeld => ?_
        clear hK K
        refine pU2 3 4 ?_
        refine pV8 5 6 7 8 9 10 11 12 ?_
        refine pV6 13 14 15 16 17 18 ?_
        refine pU2 19 20 ?_
        refine pV6 21 22 23 24 25 26 ?_
        refine pU2 27 28 ?_
        refine pV6 29 30 31 32 33 34 ?_
        refine pU1 35 ?_
        refine dN ?_
        try go_wp2
        go_meet
        case rel => exact ⟨_, (true), dM, H', ⟨by have := HJ1.out; have := HK2.out; first | omega | exact Nat.le_refl _⟩, ⟨rB a6.1⟩, ⟨rB iB.1⟩, ⟨E4⟩⟩
      case rest =>
       clear jc
       obtain ⟨kq, Gn, rfl, HA, Vu, a6, iB, HB⟩ := hcut
       cases kq with
       | zero => exact absurd HA.out (by simp [aQ.j2])
       | succ kj18 =>
        have H := HA.out
        clear HA
        simp only [aQ.j2] at H
        refine tC H ?_ ?_ <;> clear H <;> intro c48 H <;> subst c48
        ·obtain rfl := Option.some.inj H
         repeat clear H
         go_wp2
         go_ret
         exact ⟨eR, E4⟩
        ·obtain ⟨WH, Ir, H⟩ := cP H
         obtain ⟨cr, a0P, H⟩ := cP H
         obtain ⟨DY, NI, H⟩ := bY H
         have H' := am H
         repeat clear H
         have Z51 := nZ1 vU PM
         have Z52 := cz2 a6
         have Yt : (fD : Int) ≤ ((aN.length : Int) : Int) := oT
         obtain ⟨i053, dz, _, hsz53, _⟩ := info_parts rC
         have hroom53 : aN.length ≤ eQ := f4.1
         have hC53 : Kd.C k56 _ (some kD) aN.length aN := cU.1
         have hcut53 := Y4 (P := Try.prog) 29 56 .i64 Try.underlying29 dz (some kD) aN.length eQ fD (oT) Yt hroom53
         have qv := Kd.Nq (m := (fD : Int).toNat) hC53 (by omega)
         have hy53 : DY.length = (fD : Int).toNat := (by rw [NI.out, List.length_take]; omega)
         rw [← NI.out] at qv
         rw [← hy53] at hcut53
         have aa := am qv
         have aI4 := am (show DY.length ≤ eQ from by omega)
         clear qv hC53 hroom53 dz hsz53
         have KY53 := am hy53
         clear hy53
         replace Yt := eq_true Yt
         go_wp2
         go_loopg [79] kj18 (fun kq v79 w' => ∃ (AR : Int), v79 = .int .i64 AR ∧ aC (aQ.l1 kq aN (aN.length : Int) fD DY (DY.length : Int) AR bF aN ((aA aN fD).f0) ((aA aN fD).f1) ((aA aN fD).f2) = some r) ∧ aC (kq ≤ kj18) ∧ aC (w'.heap[aT]? = some (.cells #[(.slice eU bF.length eY), (.slice (some kD) aN.length eQ)] 31 (0, 0))) ∧ aC (w'.heap[BL]? = some (.cells #[.string ((aA aN fD).f0), (.slice r7 ((aA aN fD).f1).length r9), (.slice r8 ((aA aN fD).f2).length rA)] 56 (0, 0))) ∧ aC (Below w.heap.size w w'))
         case atStart => exact ⟨(0), dM, H', ⟨Nat.le_refl _⟩, ⟨rB a6.1⟩, ⟨rB iB.1⟩, ⟨E4⟩⟩
         case round =>
          clear H'
          try clear c48
          try clear WH
          try clear Ir
          try clear cr
          try clear a0P
          try clear Yt Yt
          try clear Z52
          obtain ⟨AR, rfl, HA, HK4, a6, iB, HB⟩ := hrel
          cases gk with
          | zero => exact absurd HA.out (by simp [aQ.l1])
          | succ k4 =>
           have H := HA.out
           clear HA
           simp only [aQ.l1] at H
           refine ic H ?_ ?_ <;> clear H <;> intro aLQ H
           obtain ⟨aLR, H⟩ := cN H
           obtain ⟨a0R, H⟩ := cN H
           obtain ⟨qZ, A57, H⟩ := bd H
           refine tC H ?_ ?_ <;> clear H <;> intro Ww H <;> subst Ww
           obtain rfl := Option.some.inj H
           repeat clear H
           obtain ⟨Py, WY, XU, Di, Eg, nt, Xy, Xz, Ya, XF, XB, Vz, Vq, aG1, aGG⟩ := aT56 aa HB AR
           obtain rfl : kD = Py := (by injection nt)
           have M6_ := trivial
           have M7_ := trivial
           rotate_left
           have H' := am H
           repeat clear H
           obtain ⟨Py, WY, XU, Di, Eg, nt, Xy, Xz, Ya, XF, XB, Vz, Vq, aG1, aGG⟩ := aT56 aa HB AR
           obtain rfl : kD = Py := (by injection nt)
           have M6_ := trivial
           have M8_ := trivial
           rotate_left
           have H' := am H
           repeat clear H
           rotate_left
           all_goals
            go_wp2_with (first | ((with_reducible refine gD 6 ?_); revert M6_; intro M6_; (try (refine mD (by rfl) ?_; dsimp only)); refine bX 6 #[.string (⟨#[]⟩ : ByteArray), .slice none 0 0, .slice none 0 0] 56 ?_; intro Bv hg aP5 hbox hb; have Gu := am hbox; have xg := am (aG9 : w.heap.size ≤ Bv); have xa := xg; replace HB := bS E4 hb; have PL := nL aW hg; have Ks := nG aW hg; replace a6 := bB aW hb; have PN := am (by rw [hg]; exact Nat.ne_of_lt (gL (g := BL) (o := .cells #[.string ((aA aN fD).f0), .slice r7 ((aA aN fD).f1).length r9, .slice r8 ((aA aN fD).f2).length rA] 56 (0, 0)) (rB iB.1)) : BL ≠ Bv); have Kt := am (by rw [hg]; exact Nat.ne_of_gt (gL (g := BL) (o := .cells #[.string ((aA aN fD).f0), .slice r7 ((aA aN fD).f1).length r9, .slice r8 ((aA aN fD).f2).length rA] 56 (0, 0)) (rB iB.1)) : Bv ≠ BL); replace iB := am (bH (g := BL) (o := .cells #[.string ((aA aN fD).f0), .slice r7 ((aA aN fD).f1).length r9, .slice r8 ((aA aN fD).f2).length rA] 56 (0, 0)) (rB iB.1) hb); clear hb hbox hg; have aIJ := nZ2 Ks PL Kt PN; have aIK := cz3 Gu; have aIL := nZ1 PM vU; have aIM := cz3 iB) | ((with_reducible refine gC 78 ?_); revert M7_; intro M7_; refine cQ (some 87) Try.func78 (q9.calls _ _ ((aA aN fD).f1) _ _ ((aA DY AR).f1) true _ (Kd.aX mZ.1 Cs) pK.1 (Kd.aX XF.1 Cs) XB.1 A57.out) ?_; rintro aP6 hb; replace a6 := am (bH (g := aT) (o := .cells #[.slice eU bF.length eY, .slice (some kD) aN.length eQ] 31 (0, 0)) (qF a6 PL) hb); replace iB := am (bH (g := BL) (o := .cells #[.string ((aA aN fD).f0), .slice r7 ((aA aN fD).f1).length r9, .slice r8 ((aA aN fD).f2).length rA] 56 (0, 0)) (qF iB PN) hb); replace Gu := am (bH (g := Bv) (o := .cells #[.string ((aA DY AR).f0), .slice WY ((aA DY AR).f1).length XU, .slice Di ((aA DY AR).f2).length Eg] 56 (0, 0)) pY0 hb); replace HB := bS Cs hb; clear hb) | ((with_reducible refine gC 78 ?_); revert M8_; intro M8_; refine cQ (some 87) Try.func78 (q9.calls _ _ ((aA aN fD).f1) _ _ ((aA DY AR).f1) false _ (Kd.aX mZ.1 Cs) pK.1 (Kd.aX XF.1 Cs) XB.1 A57.out) ?_; rintro aP7 hb; replace a6 := am (bH (g := aT) (o := .cells #[.slice eU bF.length eY, .slice (some kD) aN.length eQ] 31 (0, 0)) (qF a6 PL) hb); replace iB := am (bH (g := BL) (o := .cells #[.string ((aA aN fD).f0), .slice r7 ((aA aN fD).f1).length r9, .slice r8 ((aA aN fD).f2).length rA] 56 (0, 0)) (qF iB PN) hb); replace Gu := am (bH (g := Bv) (o := .cells #[.string ((aA DY AR).f0), .slice WY ((aA DY AR).f1).length XU, .slice Di ((aA DY AR).f2).length Eg] 56 (0, 0)) pY0 hb); replace HB := bS Cs hb; clear hb))
           ·go_ret
            exact ⟨eR, Cs⟩
           ·go_roundg k4
            case measure => have := HJ1.out; have := HK2.out; have := Vu.out; have := HK4.out; omega
            case rel => exact ⟨(wrap64 (AR + 1)), dM, H', ⟨by have := HJ1.out; have := HK2.out; have := Vu.out; have := HK4.out; omega⟩, ⟨rB a6.1⟩, ⟨rB iB.1⟩, ⟨Cs⟩⟩
           ·go_roundg k4
            case measure => have := HJ1.out; have := HK2.out; have := Vu.out; have := HK4.out; omega
            case rel => exact ⟨(wrap64 (fD + 1)), dM, H', ⟨by have := HJ1.out; have := HK2.out; have := Vu.out; have := HK4.out; omega⟩, ⟨rB a6.1⟩, ⟨E4⟩⟩
     ·obtain rfl := Option.some.inj H
      repeat clear H
      go_wp2
      go_ret
      exact ⟨eR, eE⟩
end Go.Proofs.Ytaofjgnhapnndaa.Q
namespace Go.Proofs.Ytaofjgnhapnndaa.Q
open Go.RowKit Go.Proofs.YtaofjgnhapnndaaW.PrintWords Go.Proofs.YtaofjgnhapnndaaW.PrintLast Go.Proofs.YtaofjgnhapnndaaW.PrintMore
set_option linter.unusedVariables false
set_option linter.unusedSimpArgs false
def bT.l0 : Nat → Int → List ByteArray → List (S56) → Int → Int → List ByteArray → List (S56) → Option (Bool)
 | 0, _, _, _, _, _, _, _ => none
 | k + 1, b, e, c, g, a, h, d => if a < g then (if 0 ≤ a then (if a < (c.length : Int) then (if a = b then (bT.l0 k b e c g (wrap64 (a + 1)) h d) else ((bG.f k e ((aA c a).f0)).bind fun i => (if i = true then (bT.l0 k b e c g (wrap64 (a + 1)) h d) else (if 0 ≤ b then (if b < (d.length : Int) then ((q9.f ((aA c a).f1) ((aA d b).f2)).bind fun j => (if j = true then (some false) else (bT.l0 k b e c g (wrap64 (a + 1)) h d))) else (none)) else (none))))) else (none)) else (none)) else (some true)
def bT.f (k : Nat) (bF : List ByteArray) (aN : List (S56)) (a1 : Int) (l2 : List ByteArray) : Option (Bool) := bT.l0 k a1 l2 aN (aN.length : Int) 0 bF aN
def bT.T4 : Bool × List (List Nat × List Nat) := (true, [([], []), ([], []), ([0, 1], [0, 1]), ([2], [2]), ([3], [3]), ([3], [3]), ([5, 3], [3, 5]), ([4, 6, 3, 3], [3, 4, 6]), ([7, 3], [3, 7]), ([3, 8], [3, 8]), ([9, 7], [9]), ([10], [10]), ([11, 10], [10, 11]), ([10], [10]), ([13, 10], [10, 13]), ([10], [10]), ([14, 15, 10], [10, 14, 15]), ([16, 10], [10, 16]), ([17, 10], [10, 17]), ([12, 18, 10, 10], [10, 12, 18]), ([10, 19], [10, 19])])
def bT.B4 : List Nat := [0, 0, 3, 7, 15, 15, 47, 127, 255, 511, 1023, 2047, 4095, 2047, 10239, 2047, 59391, 124927, 255999, 524287, 1048575]
theorem bT.tab4 : rtab .any (opsOf Try.f85 4) = bT.T4 := by kernel_rfl
theorem bT.WC : kP bT.T4.2 bT.B4 = true := by kernel_rfl
theorem bT.calls (k : Nat) (eU : Option Addr) (eY : Nat) (bF : List ByteArray) (fG : Option Addr) (eQ : Nat) (aN : List (S56)) (a1 : Int) (A2 : Option Addr) (c2 : Nat) (l2 : List ByteArray) (r : Bool) (w : World) (iG : Kd.C Kd.string w eU bF.length bF) (iD : bF.length ≤ eY) (iC : Kd.C k56 w fG aN.length aN) (iE : aN.length ≤ eQ) (U2 : Kd.C Kd.string w A2 l2.length l2) (PZ : l2.length ≤ c2) (h : bT.f k bF aN a1 l2 = some r) :
  Calls Try.prog 85 #[.agg #[.slice eU bF.length eY, .slice fG aN.length eQ], .int .i64 a1, .slice A2 l2.length c2] w fun e w' => e = .returned (.bool r) ∧ Below w.heap.size w w' := by
 have hu31 := Try.underlying31
 have hu56 := Try.underlying56
 obtain ⟨dY, dX⟩ := mZ2 iG iD
 obtain ⟨cU, f4⟩ := mZ2 iC iE
 obtain ⟨EE, zZ⟩ := mZ2 U2 PZ
 clear iG iD iC iE U2 PZ
 have HB := am (Below.refl w.heap.size w)
 unfold bT.f at h
 have H := h
 clear h
 have H' := am H
 repeat clear H
 go_enter Try.func85, Try.ntmps85
 go_wp2_with (first | ((with_reducible refine gD 3 ?_); refine bX 3 #[.slice eU bF.length eY, .slice fG aN.length eQ] 31 ?_; intro aT hg w4 hbox hb; have a6 := am hbox; have g5 := am (oS : w.heap.size ≤ aT); have iJ := g5; replace HB := bS eG hb; clear hb hbox hg; have Z5 := cz2 a6))
 go_loopg [12] k (fun kq v12 w' => ∃ (qM : Int), v12 = .int .i64 qM ∧ aC (bT.l0 kq a1 l2 aN (aN.length : Int) qM bF aN = some r) ∧ aC (kq ≤ k) ∧ aC (w'.heap[aT]? = some (.cells #[(.slice eU bF.length eY), (.slice fG aN.length eQ)] 31 (0, 0))) ∧ aC (Below w.heap.size w w'))
 case atStart => exact ⟨(0), dM, H', ⟨Nat.le_refl _⟩, ⟨rB a6.1⟩, ⟨eE⟩⟩
 clear H'
 try clear c2
 try clear Z5
 obtain ⟨qM, rfl, HA, HK1, a6, HB⟩ := hrel
 cases gk with
 | zero => exact absurd HA.out (by simp [bT.l0])
 | succ k1 =>
  have H := HA.out
  clear HA
  simp only [bT.l0] at H
  refine ic H ?_ ?_ <;> clear H <;> intro RQ H
  obtain ⟨XW, H⟩ := cN H
  obtain ⟨LB, H⟩ := cN H
  refine iq H ?_ ?_ <;> clear H <;> intro c9 PV Qx H
  have H' := am H
  repeat clear H
  obtain ⟨pF, vA, vG, vB, vH, uK, oR, qS, qT, rP, rL, vT, vS, F7, FB⟩ := aT56 cU HB qM
  cases uK
  have Ov := trivial
  rotate_left
  obtain ⟨dC, Up, H⟩ := bd H
  refine tC H ?_ ?_ <;> clear H <;> intro Bc H <;> subst Bc
  have H' := am H
  repeat clear H
  obtain ⟨pF, vA, vG, vB, vH, uK, oR, qS, qT, rP, rL, vT, vS, F7, FB⟩ := aT56 cU HB qM
  cases uK
  have Ov := trivial
  rotate_left
  obtain ⟨a0A, H⟩ := cN H
  obtain ⟨aLE, H⟩ := cN H
  obtain ⟨fT, A24, H⟩ := bd H
  refine tC H ?_ ?_ <;> clear H <;> intro cf H <;> subst cf
  obtain rfl := Option.some.inj H
  repeat clear H
  obtain ⟨pF, vA, vG, vB, vH, uK, oR, qS, qT, rP, rL, vT, vS, F7, FB⟩ := aT56 cU HB qM
  cases uK
  have Ov := trivial
  rotate_left
  have H' := am H
  repeat clear H
  obtain ⟨pF, vA, vG, vB, vH, uK, oR, qS, qT, rP, rL, vT, vS, F7, FB⟩ := aT56 cU HB qM
  cases uK
  have Ov := trivial
  rotate_left
  obtain rfl := Option.some.inj H
  repeat clear H
  rotate_left
  all_goals
   try go_wp2_with (first | ((with_reducible refine gD 8 ?_); revert Ov; intro Ov; refine bX 8 #[.string (⟨#[]⟩ : ByteArray), .slice none 0 0, .slice none 0 0] 56 ?_; intro uQ hg Kk hbox hb; have jU := am hbox; have Ap := am (I1 : w.heap.size ≤ uQ); have LH := Ap; replace HB := bS eE hb; have z7 := nL aW hg; have sZ := nG aW hg; replace a6 := bB aW hb; clear hb hbox hg; have aIN := nZ1 sZ z7; have aIO := cz3 jU))
  ·obtain ⟨Uv, eW_⟩ := eW3 Kk uQ (.string ((aA aN qM).f0)) (.slice vA ((aA aN qM).f1).length vG) (.slice vB ((aA aN qM).f2).length vH)
   rw [← eW_]
   replace a6 := uF3 eW_ a6 z7
   replace jU := uP3 eW_ jU
   replace HB := uC3 eW_ HB LH
   clear eW_
   replace a6 := BD a6
   replace jU := BD jU
   replace HB := am (aV HB.1)
   refine sT (S := fun w' => True) [] 21 ⟨trivial⟩ (fun hHeld => ?_)
   refine eO bT.tab4 bT.WC (fun HT_ HW_ => ?_)
   generalize Uv.drew = vx at a6 jU HB hHeld ⊢
   refine pU4 0 1 2 3 ?_
   refine pV5 4 5 6 7 8 ?_
   refine pU2 9 10 ?_
   refine pV8 11 12 13 14 15 16 17 18 ?_
   refine pV1 19 ?_
   refine pU1 20 ?_
   refine dN ?_
   try go_wp2
   go_roundg k1
   case measure => have := HK1.out; omega
   case rel => exact ⟨(wrap64 (qM + 1)), dM, H', ⟨by have := HK1.out; omega⟩, ⟨rB a6.1⟩, ⟨V2⟩⟩
  ·obtain ⟨Mu, eW_⟩ := eW3 Kk uQ (.string ((aA aN qM).f0)) (.slice vA ((aA aN qM).f1).length vG) (.slice vB ((aA aN qM).f2).length vH)
   rw [← eW_]
   replace a6 := uF3 eW_ a6 z7
   replace jU := uP3 eW_ jU
   replace HB := uC3 eW_ HB LH
   clear eW_
   replace a6 := BD a6
   replace jU := BD jU
   replace HB := am (aV HB.1)
   refine sT [] 21 (uA3 jU) (fun hHeld => ?_)
   refine eO bT.tab4 bT.WC (fun HT_ HW_ => ?_)
   generalize Mu.drew = Uw at a6 jU HB hHeld ⊢
   refine pU6 0 1 2 3 4 5 ?_
   refine tK3 6 (some 23) ?_
   refine oN 7 (some 24) fun K hK => ?_
   refine gQ Try.func81 (bG.calls k1 _ _ l2 ((aA aN qM).f0) true _ (pB EE) zZ.1 Up.out) ?_
   rintro w' ⟨nd, rfl⟩
   refine nK hK (uA3 jU).1 fun hHeld => ?_
   clear hK K
   refine pU3 8 9 10 ?_
   refine pV8 11 12 13 14 15 16 17 18 ?_
   refine pV1 19 ?_
   refine pU1 20 ?_
   refine dN ?_
   try go_wp2
   go_roundg k1
   case measure => have := HK1.out; omega
   case rel => exact ⟨(wrap64 (qM + 1)), dM, H', ⟨by have := HK1.out; omega⟩, ⟨rB a6.1⟩, ⟨V2⟩⟩
  ·obtain ⟨w29, eW_⟩ := eW3 Kk uQ (.string ((aA aN qM).f0)) (.slice vA ((aA aN qM).f1).length vG) (.slice vB ((aA aN qM).f2).length vH)
   rw [← eW_]
   replace a6 := uF3 eW_ a6 z7
   replace jU := uP3 eW_ jU
   replace HB := uC3 eW_ HB LH
   clear eW_
   replace a6 := BD a6
   replace jU := BD jU
   replace HB := am (aV HB.1)
   obtain ⟨wH, ES, F0, ET, F1, F3, oO, oP, oQ, sQ, o8, o9, sO, zU, mQ, qN, UX, P4⟩ := qJ cU HB a1
   obtain rfl : pF = wH := (by injection F3)
   refine sT [] 21 (uB3 jU (uB2 a6 (uBx HB oO (uBx HB oP (uAx HB oQ))))) (fun hHeld => ?_)
   refine eO bT.tab4 bT.WC (fun HT_ HW_ => ?_)
   generalize w29.drew = ue at a6 jU HB sO mQ sQ o8 o9 hHeld ⊢
   refine pU6 0 1 2 3 4 5 ?_
   refine tK8 6 (some 23) ?_
   refine oN 7 (some 24) fun K hK => ?_
   refine gQ Try.func81 (bG.calls k1 _ _ l2 ((aA aN qM).f0) false _ (pB EE) zZ.1 Up.out) ?_
   rintro w' ⟨nd, rfl⟩
   refine nK hK (uB3 jU (uB2 a6 (uBx HB oO (uBx HB oP (uAx HB oQ))))).1 fun hHeld => ?_
   clear hK K
   refine pU6 8 9 10 11 13 15 ?_
   refine tK8 12 (some 29) ?_
   refine tK8 14 (some 31) ?_
   refine pU2 16 17 ?_
   refine tK8 18 (some 35) ?_
   refine oN 19 (some 36) fun K hK => ?_
   refine gQ Try.func78 (q9.calls _ _ ((aA aN qM).f1) _ _ ((aA aN a1).f2) true _ (pC (Kd.aX rP.1 V2)) rL.1 (pC (Kd.aX mQ.1 V2)) qN.1 A24.out) ?_
   rintro vz hb
   replace a6 := bB aW hb
   replace jU := bB LS hb
   replace HB := bS V2 hb
   clear hb
   refine nK hK (uB3 jU (uB2 a6 (uBx HB oO (uBx HB oP (uAx HB oQ))))).1 fun hHeld => ?_
   clear hK K
   refine pU1 20 ?_
   refine dN ?_
   try go_wp2
   go_ret
   exact ⟨eR, V2⟩
  ·obtain ⟨w35, eW_⟩ := eW3 Kk uQ (.string ((aA aN qM).f0)) (.slice vA ((aA aN qM).f1).length vG) (.slice vB ((aA aN qM).f2).length vH)
   rw [← eW_]
   replace a6 := uF3 eW_ a6 z7
   replace jU := uP3 eW_ jU
   replace HB := uC3 eW_ HB LH
   clear eW_
   replace a6 := BD a6
   replace jU := BD jU
   replace HB := am (aV HB.1)
   obtain ⟨wH, ES, F0, ET, F1, F3, oO, oP, oQ, sQ, o8, o9, sO, zU, mQ, qN, UX, P4⟩ := qJ cU HB a1
   obtain rfl : pF = wH := (by injection F3)
   refine sT [] 21 (uB3 jU (uB2 a6 (uBx HB oO (uBx HB oP (uAx HB oQ))))) (fun hHeld => ?_)
   refine eO bT.tab4 bT.WC (fun HT_ HW_ => ?_)
   generalize w35.drew = uf at a6 jU HB sO mQ sQ o8 o9 hHeld ⊢
   refine pU6 0 1 2 3 4 5 ?_
   refine tK8 6 (some 23) ?_
   refine oN 7 (some 24) fun K hK => ?_
   refine gQ Try.func81 (bG.calls k1 _ _ l2 ((aA aN qM).f0) false _ (pB EE) zZ.1 Up.out) ?_
   rintro w' ⟨nd, rfl⟩
   refine nK hK (uB3 jU (uB2 a6 (uBx HB oO (uBx HB oP (uAx HB oQ))))).1 fun hHeld => ?_
   clear hK K
   refine pU6 8 9 10 11 13 15 ?_
   refine tK8 12 (some 29) ?_
   refine tK8 14 (some 31) ?_
   refine pU2 16 17 ?_
   refine tK8 18 (some 35) ?_
   refine oN 19 (some 36) fun K hK => ?_
   refine gQ Try.func78 (q9.calls _ _ ((aA aN qM).f1) _ _ ((aA aN a1).f2) false _ (pC (Kd.aX rP.1 V2)) rL.1 (pC (Kd.aX mQ.1 V2)) qN.1 A24.out) ?_
   rintro ug hb
   replace a6 := bB aW hb
   replace jU := bB LS hb
   replace HB := bS V2 hb
   clear hb
   refine nK hK (uB3 jU (uB2 a6 (uBx HB oO (uBx HB oP (uAx HB oQ))))).1 fun hHeld => ?_
   clear hK K
   refine pU1 20 ?_
   refine dN ?_
   try go_wp2
   go_roundg k1
   case measure => have := HK1.out; omega
   case rel => exact ⟨(wrap64 (qM + 1)), dM, H', ⟨by have := HK1.out; omega⟩, ⟨rB a6.1⟩, ⟨V2⟩⟩
  ·go_ret
   exact ⟨eR, eE⟩
mutual
def dV.l0 : Nat → List ByteArray → List ByteArray → List (S56) → Option (List ByteArray × Bool)
 | 0, _, _, _ => none
 | k + 1, a, c, b => if (a.length : Int) < (b.length : Int) then (dV.l1 k a (a.length : Int) b (b.length : Int) 0 c b) else (some (a, true))
def dV.l1 : Nat → List ByteArray → Int → List (S56) → Int → Int → List ByteArray → List (S56) → Option (List ByteArray × Bool)
 | 0, _, _, _, _, _, _, _ => none
 | k + 1, a, g, c, h, b, d, e => if b < h then (if 0 ≤ b then (if b < (c.length : Int) then ((bG.f k a ((aA c b).f0)).bind fun j => (if j = true then (dV.l1 k a g c h (wrap64 (b + 1)) d e) else ((bT.f k d e b a).bind fun l => (if l = true then (if a.length < 8796093022208 then ((some (a ++ [(aA c b).f0] : List ByteArray)).bind fun i => (if (i.length : Int) = g then (some (([] : List ByteArray), false)) else (dV.l0 k i d e))) else (none)) else (dV.l1 k a g c h (wrap64 (b + 1)) d e))))) else (none)) else (none)) else (if (a.length : Int) = g then (some (([] : List ByteArray), false)) else (dV.l0 k a d e))
end
def dV.f (k : Nat) (bF : List ByteArray) (aN : List (S56)) : Option (List ByteArray × Bool) := (aQ.f k bF aN).bind fun a => (if a = true then (dV.l0 k (([] : List ByteArray)) bF aN) else (some (([] : List ByteArray), false)))
theorem dV.calls (k : Nat) (eU : Option Addr) (eY : Nat) (bF : List ByteArray) (fG : Option Addr) (eQ : Nat) (aN : List (S56)) (r1 : List ByteArray) (r2 : Bool) (w : World) (iG : Kd.C Kd.string w eU bF.length bF) (iD : bF.length ≤ eY) (iC : Kd.C k56 w fG aN.length aN) (iE : aN.length ≤ eQ) (h : dV.f k bF aN = some (r1, r2)) :
  Calls Try.prog 45 #[.agg #[.slice eU bF.length eY, .slice fG aN.length eQ]] w fun e w' => ∃ v0_ : Value, e = .returned (.tuple #[v0_, .bool r2]) ∧ Kd.R Kd.string 9 w' w.heap.size (fun _ => True) v0_ r1 ∧ Below w.heap.size w w' := by
 have hu31 := Try.underlying31
 have hu56 := Try.underlying56
 obtain ⟨dY, dX⟩ := mZ2 iG iD
 obtain ⟨cU, f4⟩ := mZ2 iC iE
 clear iG iD iC iE
 have HB := am (Below.refl w.heap.size w)
 unfold dV.f at h
 have H := h
 clear h
 obtain ⟨lD, A2, H⟩ := bd H
 refine tC H ?_ ?_ <;> clear H <;> intro c3 H <;> subst c3
 ·obtain ⟨LF, hy103⟩ : ∃ y_ : List ByteArray, y_ = (([] : List ByteArray)) := ⟨_, rfl⟩
  replace H : (dV.l0 k LF bF aN) = some (r1, r2) := by first | (rw [hy103]; with_reducible exact H) | (have H2_ := (Option.bind_some _ _).symm.trans H; rw [hy103]; with_reducible exact H2_) | (have H2_ := (Option.bind_some _ _).symm.trans H; with_reducible exact H2_) | with_reducible exact H | (rw [hy103]; exact H) | exact H
  have QU := am hy103
  clear hy103
  have H' := am H
  repeat clear H
  go_enter Try.func45, Try.ntmps45
  go_wp2_with (first | ((with_reducible refine gD 1 ?_); refine bX 1 #[.slice eU bF.length eY, .slice fG aN.length eQ] 31 ?_; intro aT hg w4 hbox hb; have a6 := am hbox; have g5 := am (oS : w.heap.size ≤ aT); have iJ := g5; replace HB := bS eG hb; clear hb hbox hg; have Z5 := cz2 a6) | ((with_reducible refine gC 24 ?_); refine cQ (some 9) Try.func24 (aQ.calls k _ _ bF _ _ aN true _ (pB dY) dX.1 (pB cU) f4.1 A2.out) ?_; rintro w6 hb; replace a6 := bB aW hb; replace HB := bS eE hb; clear hb) | ((with_reducible refine jW (N := 11) rfl ?_); refine lS 9 11 QU ?_; intro FD w7 ho8 hb; have mY := am (Kd.d9 ho8 (aG eE)); replace a6 := bB aW hb; replace HB := bS eE hb; clear hb ho8))
  go_loopg [4] k (fun kq v4 w' => ∃ (mU : List ByteArray), aC (dV.l0 kq mU bF aN = some (r1, r2)) ∧ aC (kq ≤ k) ∧ aC (Kd.R Kd.string 9 w' w.heap.size (fun _ => True) v4 mU) ∧ aC (w'.heap[aT]? = some (.cells #[(.slice eU bF.length eY), (.slice fG aN.length eQ)] 31 (0, 0))) ∧ aC (Below w.heap.size w w'))
  case atStart => exact ⟨(LF), H', ⟨Nat.le_refl _⟩, ⟨rR mY.1⟩, ⟨rB a6.1⟩, ⟨eE⟩⟩
  clear H'
  try clear c3
  try clear Z5
  obtain ⟨mU, HA, HK1, m6, a6, HB⟩ := hrel
  cases gk with
  | zero => exact absurd HA.out (by simp [dV.l0])
  | succ k1 =>
   have H := HA.out
   clear HA
   simp only [dV.l0] at H
   by_cases c9 : (mU.length : Int) < (aN.length : Int)
   ·rw [if_pos c9] at H
    have PV : decide ((mU.length : Int) < (aN.length : Int)) = true := decide_eq_true c9
    have Qx : decide (mU.length < aN.length) = true := decide_eq_true (Int.ofNat_lt.mp c9)
    clear c9
    have H' := am H
    repeat clear H
    obtain ⟨aS2, aU8, aEI⟩ := Kd.bP m6.1
    subst aEI
    have Uq := cz2 a6
    go_wp2
    go_loopg [4, 23] k1 (fun kq v4 v23 w' => ∃ (vR : List ByteArray) (lE : Int), v23 = .int .i64 lE ∧ aC (dV.l1 kq vR (mU.length : Int) aN (aN.length : Int) lE bF aN = some (r1, r2)) ∧ aC (kq ≤ k1) ∧ aC (Kd.R Kd.string 9 w' w.heap.size (fun _ => True) v4 vR) ∧ aC (w'.heap[aT]? = some (.cells #[(.slice eU bF.length eY), (.slice fG aN.length eQ)] 31 (0, 0))) ∧ aC (Below w.heap.size w w'))
    case atStart => exact ⟨(mU), (0), dM, H', ⟨Nat.le_refl _⟩, ⟨rR m6.1⟩, ⟨rB a6.1⟩, ⟨eE⟩⟩
    case round =>
     clear H'
     try clear c3
     try clear c9
     try clear PV
     try clear Qx
     try clear Uq
     try clear Z5
     obtain ⟨vR, lE, rfl, HA, HK2, m6, a6, HB⟩ := hrel
     cases gk with
     | zero => exact absurd HA.out (by simp [dV.l1])
     | succ k2 =>
      have H := HA.out
      clear HA
      simp only [dV.l1] at H
      refine ic H ?_ ?_ <;> clear H <;> intro QX H
      ·obtain ⟨WD, H⟩ := cN H
       obtain ⟨Bb, H⟩ := cN H
       obtain ⟨lJ, Up, H⟩ := bd H
       refine tC H ?_ ?_ <;> clear H <;> intro Bc H <;> subst Bc
       ·have H' := am H
        repeat clear H
        obtain ⟨xS, wK, wL, xB, xI, F4, qU, qV, qW, qO, wX, tW, BO, Q6, JT⟩ := aT56 cU HB lE
        cases F4
        go_wp2_with (first | ((with_reducible refine gD 7 ?_); refine bX 7 #[.string (⟨#[]⟩ : ByteArray), .slice none 0 0, .slice none 0 0] 56 ?_; intro D8 hg w17 hbox hb; replace m6 := RB GB hb; have wQ := am hbox; have TD := am (I1 : w.heap.size ≤ D8); have Gw := TD; replace HB := bS eE hb; have sW := nL aW hg; have zA := nG aW hg; replace a6 := bB aW hb; clear hb hbox hg; have Z18 := nZ1 zA sW; have uo := cz3 wQ; obtain ⟨xE, nY, Y7⟩ := Kd.bP m6.1; subst Y7) | ((with_reducible refine lG (f := 81) rfl ?_); refine wO (some 31) rfl rfl Try.func81 (by kernel_rfl) rfl #[.slice xE vR.length nY, .string ((aA aN lE).f0)] rfl xV ?_; (with_reducible refine (bG.calls k2 _ _ vR ((aA aN lE).f0) true _ ?side1 ?side2 Up.out).mono ?_); (case side1 => refine (Kd.aU (e := 9) (base := w.heap.size) (ok := fun k_ => True) (n := vR.length) (c := nY) ?_).2.2; exact Uu); (case side2 => exact (Kd.aU m6.1).2.1); rintro e w' ⟨rfl, ⟨nd, rfl⟩⟩; refine ⟨_, rfl, ?_⟩))
        go_roundg k2
        case measure => have := HK1.out; have := HK2.out; omega
        case rel => exact ⟨(vR), (wrap64 (lE + 1)), dM, H', ⟨by have := HK1.out; have := HK2.out; omega⟩, ⟨mR m6 wQ⟩, ⟨qF a6 sW⟩, ⟨JS⟩⟩
       ·obtain ⟨yT, Uy, H⟩ := bd H
        refine tC H ?_ ?_ <;> clear H <;> intro c22 H <;> subst c22
        ·obtain ⟨ab, H⟩ := cL H
         obtain ⟨K4, VS, H⟩ := bY H
         by_cases Ej : (K4.length : Int) = (mU.length : Int)
         ·rw [if_pos Ej] at H
          have a0B : ((K4.length : Int) == (mU.length : Int)) = true := beq_iff_eq.mpr Ej
          have a0C : ((K4.length : Int) != (mU.length : Int)) = false := bne_eq_false_iff_eq.mpr Ej
          have a0D : (K4.length == mU.length) = true := by first | simpa using Ej | (simp at Ej ⊢; omega)
          clear Ej
          obtain ⟨rfl, rfl⟩ := sZ2 H
          repeat clear H
          obtain ⟨xS, wK, wL, xB, xI, F4, qU, qV, qW, qO, wX, tW, BO, Q6, JT⟩ := aT56 cU HB lE
          cases F4
          go_wp2_with (first | ((with_reducible refine gD 7 ?_); refine bX 7 #[.string (⟨#[]⟩ : ByteArray), .slice none 0 0, .slice none 0 0] 56 ?_; intro D8 hg vy hbox hb; replace m6 := RB GB hb; have wQ := am hbox; have TD := am (I1 : w.heap.size ≤ D8); have Gw := TD; replace HB := bS eE hb; have sW := nL aW hg; have zA := nG aW hg; replace a6 := bB aW hb; clear hb hbox hg; have Z26 := nZ1 zA sW; have Z27 := cz3 wQ; obtain ⟨wq, Wx, aEM⟩ := Kd.bP m6.1; subst aEM) | ((with_reducible refine lG (f := 81) rfl ?_); refine wO (some 31) rfl rfl Try.func81 (by kernel_rfl) rfl #[.slice wq vR.length Wx, .string ((aA aN lE).f0)] rfl xV ?_; (with_reducible refine (bG.calls k2 _ _ vR ((aA aN lE).f0) false _ ?side1 ?side2 Up.out).mono ?_); (case side1 => refine (Kd.aU (e := 9) (base := w.heap.size) (ok := fun k_ => True) (n := vR.length) (c := Wx) ?_).2.2; exact Uu); (case side2 => exact (Kd.aU m6.1).2.1); rintro e w' ⟨rfl, ⟨nd, rfl⟩⟩; refine ⟨_, rfl, ?_⟩; have Z29 := cz2 a6) | (go_at_call 85; (with_reducible refine (bT.calls k2 _ _ bF _ _ aN lE _ _ vR true _ ?side1 ?side2 ?side3 ?side4 ?side5 ?side6 Uy.out).mono ?_); (case side1 => exact Kd.aX dY.1 JS); (case side2 => exact dX.1); (case side3 => exact Kd.aX cU.1 JS); (case side4 => exact f4.1); (case side5 => refine (Kd.aU (e := 9) (base := w.heap.size) (ok := fun k_ => True) (n := vR.length) (c := Wx) ?_).2.2; exact Uu); (case side6 => exact (Kd.aU m6.1).2.1); rintro e ue ⟨rfl, hb⟩; replace m6 := RB Uu hb; replace a6 := am (bH (g := aT) (o := .cells #[.slice eU bF.length eY, .slice (some xS) aN.length eQ] 31 (0, 0)) pY4 hb); replace wQ := am (bH (g := D8) (o := .cells #[.string ((aA aN lE).f0), .slice wK ((aA aN lE).f1).length wL, .slice xB ((aA aN lE).f2).length xI] 56 (0, 0)) pY1 hb); replace HB := bS JS hb; clear hb; have Z31 := cz3 wQ) | ((with_reducible refine o7 (b := .append) (xs := #[.tmp 39, .tmp 42]) rfl ?_); at_builtin; refine Kd.AC Kd.string (w0 := w) w.heap.size rfl (.tmp 39) (.tmp 42) 23 9 (.string ⟨#[]⟩) 16 rfl Try.underlying23 rY rfl (by decide) (by omega) (.slice wq vR.length Wx) vR ((aA aN lE).f0) [.string ((aA aN lE).f0)] (fun _ => True) (fun _ => False) rfl rfl ?aP (fun _ hk => hk.elim) ?aF ?aO ?aB ?aS ?aL ?_; (case aP => exact rfl); (case aB => exact JS); (case aF => exact (fun _ _ => trivial)); (case aO => exact GB); (case aS => exact (aG JS)); (case aL => have := ab.out; omega); intro RY w32 ho hb hg hat; rw [← VS.out] at ho; replace a6 := gkR aW hg m6 a6; replace wQ := am (tH (g := D8) (o := .cells #[.string ((aA aN lE).f0), .slice wK ((aA aN lE).f1).length wL, .slice xB ((aA aN lE).f2).length xI] 56 (0, 0)) (rB wQ.1) hg (Kd.R_ne m6.1 wQ.1 (by decide))); replace HB := am hb; have xN := am ho; clear m6; clear ho hb hg hat; obtain ⟨aS3, aU9, aEN⟩ := Kd.bP xN.1; subst aEN))
          go_ret2
          exact ⟨_, eR, by first | exact Kd.uE _ _ _ _ _ | exact Kd.CG _ _ _ _ _ | exact Kd.CO _ _ _ _ _ | exact Kd.CJ _ _ _ _ _ | exact Kd.yU _ _ _ _ _, JS⟩
         ·rw [if_neg Ej] at H
          have a0B : ((K4.length : Int) == (mU.length : Int)) = false := beq_eq_false_iff_ne.mpr Ej
          have a0C : ((K4.length : Int) != (mU.length : Int)) = true := bne_iff_ne.mpr Ej
          have a0D : (K4.length == mU.length) = false := by first | simpa using Ej | (simp at Ej ⊢; omega)
          have H' := am H
          repeat clear H
          obtain ⟨xS, wK, wL, xB, xI, F4, qU, qV, qW, qO, wX, tW, BO, Q6, JT⟩ := aT56 cU HB lE
          cases F4
          go_wp2_with (first | ((with_reducible refine gD 7 ?_); refine bX 7 #[.string (⟨#[]⟩ : ByteArray), .slice none 0 0, .slice none 0 0] 56 ?_; intro D8 hg w34 hbox hb; replace m6 := RB GB hb; have wQ := am hbox; have TD := am (I1 : w.heap.size ≤ D8); have Gw := TD; replace HB := bS eE hb; have sW := nL aW hg; have zA := nG aW hg; replace a6 := bB aW hb; clear hb hbox hg; have zm := nZ1 zA sW; have Z36 := cz3 wQ; obtain ⟨Va, Li, Xf⟩ := Kd.bP m6.1; subst Xf) | ((with_reducible refine lG (f := 81) rfl ?_); refine wO (some 31) rfl rfl Try.func81 (by kernel_rfl) rfl #[.slice Va vR.length Li, .string ((aA aN lE).f0)] rfl xV ?_; (with_reducible refine (bG.calls k2 _ _ vR ((aA aN lE).f0) false _ ?side1 ?side2 Up.out).mono ?_); (case side1 => refine (Kd.aU (e := 9) (base := w.heap.size) (ok := fun k_ => True) (n := vR.length) (c := Li) ?_).2.2; exact Uu); (case side2 => exact (Kd.aU m6.1).2.1); rintro e w' ⟨rfl, ⟨nd, rfl⟩⟩; refine ⟨_, rfl, ?_⟩; have Z38 := cz2 a6) | (go_at_call 85; (with_reducible refine (bT.calls k2 _ _ bF _ _ aN lE _ _ vR true _ ?side1 ?side2 ?side3 ?side4 ?side5 ?side6 Uy.out).mono ?_); (case side1 => exact Kd.aX dY.1 JS); (case side2 => exact dX.1); (case side3 => exact Kd.aX cU.1 JS); (case side4 => exact f4.1); (case side5 => refine (Kd.aU (e := 9) (base := w.heap.size) (ok := fun k_ => True) (n := vR.length) (c := Li) ?_).2.2; exact Uu); (case side6 => exact (Kd.aU m6.1).2.1); rintro e w39 ⟨rfl, hb⟩; replace m6 := RB Uu hb; replace a6 := am (bH (g := aT) (o := .cells #[.slice eU bF.length eY, .slice (some xS) aN.length eQ] 31 (0, 0)) pY4 hb); replace wQ := am (bH (g := D8) (o := .cells #[.string ((aA aN lE).f0), .slice wK ((aA aN lE).f1).length wL, .slice xB ((aA aN lE).f2).length xI] 56 (0, 0)) pY1 hb); replace HB := bS JS hb; clear hb; have Z40 := cz3 wQ) | ((with_reducible refine o7 (b := .append) (xs := #[.tmp 39, .tmp 42]) rfl ?_); at_builtin; refine Kd.AC Kd.string (w0 := w) w.heap.size rfl (.tmp 39) (.tmp 42) 23 9 (.string ⟨#[]⟩) 16 rfl Try.underlying23 rY rfl (by decide) (by omega) (.slice Va vR.length Li) vR ((aA aN lE).f0) [.string ((aA aN lE).f0)] (fun _ => True) (fun _ => False) rfl rfl ?aP (fun _ hk => hk.elim) ?aF ?aO ?aB ?aS ?aL ?_; (case aP => exact rfl); (case aB => exact JS); (case aF => exact (fun _ _ => trivial)); (case aO => exact GB); (case aS => exact (aG JS)); (case aL => have := ab.out; omega); intro RY w41 ho hb hg hat; rw [← VS.out] at ho; replace a6 := gkR aW hg m6 a6; replace wQ := am (tH (g := D8) (o := .cells #[.string ((aA aN lE).f0), .slice wK ((aA aN lE).f1).length wL, .slice xB ((aA aN lE).f2).length xI] 56 (0, 0)) (rB wQ.1) hg (Kd.R_ne m6.1 wQ.1 (by decide))); replace HB := am hb; have xN := am ho; clear m6; clear ho hb hg hat; obtain ⟨Nm, NQ, od⟩ := Kd.bP xN.1; subst od))
          go_roundg k2
          case measure => have := HK1.out; have := HK2.out; omega
          case rel => exact ⟨(K4), H', ⟨by have := HK1.out; have := HK2.out; omega⟩, ⟨rR xN.1⟩, ⟨rB a6.1⟩, ⟨JS⟩⟩
        ·have H' := am H
         repeat clear H
         obtain ⟨xS, wK, wL, xB, xI, F4, qU, qV, qW, qO, wX, tW, BO, Q6, JT⟩ := aT56 cU HB lE
         cases F4
         go_wp2_with (first | ((with_reducible refine gD 7 ?_); refine bX 7 #[.string (⟨#[]⟩ : ByteArray), .slice none 0 0, .slice none 0 0] 56 ?_; intro D8 hg w43 hbox hb; replace m6 := RB GB hb; have wQ := am hbox; have TD := am (I1 : w.heap.size ≤ D8); have Gw := TD; replace HB := bS eE hb; have sW := nL aW hg; have zA := nG aW hg; replace a6 := bB aW hb; clear hb hbox hg; have Z44 := nZ1 zA sW; have Z45 := cz3 wQ; obtain ⟨gn, Qz, oe⟩ := Kd.bP m6.1; subst oe) | ((with_reducible refine lG (f := 81) rfl ?_); refine wO (some 31) rfl rfl Try.func81 (by kernel_rfl) rfl #[.slice gn vR.length Qz, .string ((aA aN lE).f0)] rfl xV ?_; (with_reducible refine (bG.calls k2 _ _ vR ((aA aN lE).f0) false _ ?side1 ?side2 Up.out).mono ?_); (case side1 => refine (Kd.aU (e := 9) (base := w.heap.size) (ok := fun k_ => True) (n := vR.length) (c := Qz) ?_).2.2; exact Uu); (case side2 => exact (Kd.aU m6.1).2.1); rintro e w' ⟨rfl, ⟨nd, rfl⟩⟩; refine ⟨_, rfl, ?_⟩; have Z47 := cz2 a6) | (go_at_call 85; (with_reducible refine (bT.calls k2 _ _ bF _ _ aN lE _ _ vR false _ ?side1 ?side2 ?side3 ?side4 ?side5 ?side6 Uy.out).mono ?_); (case side1 => exact Kd.aX dY.1 JS); (case side2 => exact dX.1); (case side3 => exact Kd.aX cU.1 JS); (case side4 => exact f4.1); (case side5 => refine (Kd.aU (e := 9) (base := w.heap.size) (ok := fun k_ => True) (n := vR.length) (c := Qz) ?_).2.2; exact Uu); (case side6 => exact (Kd.aU m6.1).2.1); rintro e w48 ⟨rfl, hb⟩; replace m6 := RB Uu hb; replace a6 := am (bH (g := aT) (o := .cells #[.slice eU bF.length eY, .slice (some xS) aN.length eQ] 31 (0, 0)) pY4 hb); replace wQ := am (bH (g := D8) (o := .cells #[.string ((aA aN lE).f0), .slice wK ((aA aN lE).f1).length wL, .slice xB ((aA aN lE).f2).length xI] 56 (0, 0)) pY1 hb); replace HB := bS JS hb; clear hb))
         go_roundg k2
         case measure => have := HK1.out; have := HK2.out; omega
         case rel => exact ⟨(vR), (wrap64 (lE + 1)), dM, H', ⟨by have := HK1.out; have := HK2.out; omega⟩, ⟨rR m6.1⟩, ⟨rB a6.1⟩, ⟨JS⟩⟩
      ·by_cases WG : (vR.length : Int) = (mU.length : Int)
       ·rw [if_pos WG] at H
        have WH : ((vR.length : Int) == (mU.length : Int)) = true := beq_iff_eq.mpr WG
        have Ir : ((vR.length : Int) != (mU.length : Int)) = false := bne_eq_false_iff_eq.mpr WG
        have a0O : (vR.length == mU.length) = true := by first | simpa using WG | (simp at WG ⊢; omega)
        clear WG
        obtain ⟨rfl, rfl⟩ := sZ2 H
        repeat clear H
        obtain ⟨aS6, aUC, aER⟩ := Kd.bP m6.1
        subst aER
        go_wp2
        go_ret2
        exact ⟨_, eR, by first | exact Kd.uE _ _ _ _ _ | exact Kd.CG _ _ _ _ _ | exact Kd.CO _ _ _ _ _ | exact Kd.CJ _ _ _ _ _ | exact Kd.yU _ _ _ _ _, eE⟩
       ·rw [if_neg WG] at H
        have WH : ((vR.length : Int) == (mU.length : Int)) = false := beq_eq_false_iff_ne.mpr WG
        have Ir : ((vR.length : Int) != (mU.length : Int)) = true := bne_iff_ne.mpr WG
        have a0O : (vR.length == mU.length) = false := by first | simpa using WG | (simp at WG ⊢; omega)
        have H' := am H
        repeat clear H
        obtain ⟨wu, a19, Xi⟩ := Kd.bP m6.1
        subst Xi
        go_wp2
        go_roundg k2
        case measure => have := HK1.out; have := HK2.out; omega
        case rel => exact ⟨(vR), H', ⟨by have := HK1.out; have := HK2.out; omega⟩, ⟨rR m6.1⟩, ⟨rB a6.1⟩, ⟨eE⟩⟩
   ·rw [if_neg c9] at H
    have PV : decide ((mU.length : Int) < (aN.length : Int)) = false := decide_eq_false c9
    have Qx : decide (mU.length < aN.length) = false := decide_eq_false (fun h => c9 (Int.ofNat_lt.mpr h))
    clear c9
    obtain ⟨rfl, rfl⟩ := sZ2 H
    repeat clear H
    obtain ⟨aS7, aUD, aES⟩ := Kd.bP m6.1
    subst aES
    have Z53 := cz2 a6
    go_wp2
    go_ret2
    exact ⟨_, eR, rR m6.1, eE⟩
 obtain ⟨rfl, rfl⟩ := sZ2 H
 repeat clear H
 go_enter Try.func45, Try.ntmps45
 go_wp2_with (first | ((with_reducible refine gD 1 ?_); refine bX 1 #[.slice eU bF.length eY, .slice fG aN.length eQ] 31 ?_; intro aT hg w54 hbox hb; have a6 := am hbox; have g5 := am (oS : w.heap.size ≤ aT); have iJ := g5; replace HB := bS eG hb; clear hb hbox hg; have Z55 := cz2 a6) | ((with_reducible refine gC 24 ?_); refine cQ (some 9) Try.func24 (aQ.calls k _ _ bF _ _ aN false _ (pB dY) dX.1 (pB cU) f4.1 A2.out) ?_; rintro w56 hb; replace a6 := bB aW hb; replace HB := bS eE hb; clear hb))
 go_ret2
 exact ⟨_, eR, by first | exact Kd.uE _ _ _ _ _ | exact Kd.CG _ _ _ _ _ | exact Kd.CO _ _ _ _ _ | exact Kd.CJ _ _ _ _ _ | exact Kd.yU _ _ _ _ _, eE⟩
end Go.Proofs.Ytaofjgnhapnndaa.Q
namespace Go.Proofs.Ytaofjgnhapnndaa.Q
open Go.RowKit Go.Proofs.YtaofjgnhapnndaaW.PrintWords Go.Proofs.YtaofjgnhapnndaaW.PrintLast Go.Proofs.YtaofjgnhapnndaaW.PrintMore
set_option linter.unusedVariables false
set_option linter.unusedSimpArgs false
def gF.f (k : Nat) (bF : List ByteArray) (aN : List (S56)) : Option (Bool) := (dV.f k bF aN).bind fun a => (some a.2)
theorem gF.calls (k : Nat) (eU : Option Addr) (eY : Nat) (bF : List ByteArray) (fG : Option Addr) (eQ : Nat) (aN : List (S56)) (r : Bool) (w : World) (iG : Kd.C Kd.string w eU bF.length bF) (iD : bF.length ≤ eY) (iC : Kd.C k56 w fG aN.length aN) (iE : aN.length ≤ eQ) (h : gF.f k bF aN = some r) :
  Calls Try.prog 36 #[.agg #[.slice eU bF.length eY, .slice fG aN.length eQ]] w fun e w' => e = .returned (.bool r) ∧ Below w.heap.size w w' := by
 have hu31 := Try.underlying31
 obtain ⟨dY, dX⟩ := mZ2 iG iD
 obtain ⟨cU, f4⟩ := mZ2 iC iE
 clear iG iD iC iE
 have HB := am (Below.refl w.heap.size w)
 unfold gF.f at h
 have H := h
 clear h
 obtain ⟨⟨lD, oH⟩, A2, H⟩ := bd H
 dsimp only at H
 obtain rfl := Option.some.inj H
 repeat clear H
 go_enter Try.func36, Try.ntmps36
 go_wp2_with (first | ((with_reducible refine gD 1 ?_); refine bX 1 #[.slice eU bF.length eY, .slice fG aN.length eQ] 31 ?_; intro aT hg w3 hbox hb; have a6 := am hbox; have g5 := am (oS : w.heap.size ≤ aT); have iJ := g5; replace HB := bS eG hb; clear hb hbox hg; have Z4 := cz2 a6) | ((with_reducible refine gC 45 ?_); refine cE (some 7) Try.func45 (dV.calls k _ _ bF _ _ aN lD oH _ (pB dY) dX.1 (pB cU) f4.1 A2.out) ?_; rintro e w5 ⟨Ab, rfl, f3, hb⟩; refine ⟨_, rfl, ?_⟩; have lM := am (Kd.d9 f3 (aG eE)); replace a6 := bB aW hb; replace HB := bS eE hb; clear hb f3))
 go_ret
 exact ⟨eR, eE⟩
def xW.f (a0 : Int) (a1 : Int) (a2 : Int) : Option (Bool) := if a0 ≥ a1 then (some (decide (a0 ≤ a2))) else (some false)
theorem xW.calls (a0 : Int) (a1 : Int) (a2 : Int) (r : Bool) (w : World) (h : xW.f a0 a1 a2 = some r) :
  Calls Try.prog 111 #[.int .i64 a0, .int .i64 a1, .int .i64 a2] w fun e w' => e = .returned (.bool r) ∧ kY w w' := by
 unfold xW.f at h
 have H := h
 clear h
 by_cases c4 : a0 ≥ a1
 ·rw [if_pos c4] at H
  have yF : decide (a1 ≤ a0) = true := decide_eq_true c4
  clear c4
  obtain rfl := Option.some.inj H
  repeat clear H
  go_enter Try.func111, Try.ntmps111
  go_wp2
  go_ret
  exact ⟨by first | rfl | (simp; done) | (simp [*]; done), gR⟩
 rw [if_neg c4] at H
 have yF : decide (a1 ≤ a0) = false := decide_eq_false c4
 clear c4
 obtain rfl := Option.some.inj H
 repeat clear H
 go_enter Try.func111, Try.ntmps111
 go_wp2
 go_ret
 exact ⟨by first | rfl | (simp; done) | (simp [*]; done), gR⟩
def cZ.l0 : Nat → ByteArray → Int → Option (Bool)
 | 0, _, _ => none
 | k + 1, b, a => if a < (b.size : Int) then (if 0 ≤ a then (if (bt b a) ≥ 97 then (if (bt b a) ≤ 122 then (cZ.l0 k b (wrap64 (a + 1))) else (if (bt b a) ≥ 48 then (if (bt b a) ≤ 57 then (cZ.l0 k b (wrap64 (a + 1))) else (if ((bt b a) = 45) then (cZ.l0 k b (wrap64 (a + 1))) else (some false))) else (if ((bt b a) = 45) then (cZ.l0 k b (wrap64 (a + 1))) else (some false)))) else (if (bt b a) ≥ 48 then (if (bt b a) ≤ 57 then (cZ.l0 k b (wrap64 (a + 1))) else (if ((bt b a) = 45) then (cZ.l0 k b (wrap64 (a + 1))) else (some false))) else (if ((bt b a) = 45) then (cZ.l0 k b (wrap64 (a + 1))) else (some false)))) else (none)) else (some true)
def cZ.f (k : Nat) (a0 : ByteArray) : Option (Bool) := (xW.f (a0.size : Int) 1 8).bind fun a => (if a = true then (cZ.l0 k a0 0) else (some false))
theorem cZ.calls (k : Nat) (a0 : ByteArray) (r : Bool) (w : World) (h : cZ.f k a0 = some r) :
  Calls Try.prog 70 #[.string a0] w fun e w' => e = .returned (.bool r) ∧ kY w w' := by
 unfold cZ.f at h
 have H := h
 clear h
 obtain ⟨l5, A2, H⟩ := bd H
 refine tC H ?_ ?_ <;> clear H <;> intro c3 H <;> subst c3
 ·have H' := am H
  repeat clear H
  go_enter Try.func70, Try.ntmps70
  go_wp2_with (first | ((with_reducible refine gC 111 ?_); refine cQ (some 7) Try.func111 (xW.calls (a0.size : Int) 1 8 true _ A2.out) ?_; rintro w' ⟨nd, rfl⟩))
  go_loopg [3] k (fun kq v3 w' => ∃ (mF : Int), v3 = .int .i64 mF ∧ aC (cZ.l0 kq a0 mF = some r) ∧ aC (kq ≤ k) ∧ kY w w')
  case atStart => exact ⟨(0), dM, H', ⟨Nat.le_refl _⟩, gR⟩
  clear H'
  try clear c3
  obtain ⟨mF, rfl, HA, HK1, ⟨m1, rfl⟩⟩ := hrel
  cases gk with
  | zero => exact absurd HA.out (by simp [cZ.l0])
  | succ k1 =>
   have H := HA.out
   clear HA
   simp only [cZ.l0] at H
   refine ic H ?_ ?_ <;> clear H <;> intro yF H
   ·obtain ⟨IP, H⟩ := cN H
    by_cases c7 : (bt a0 mF) ≥ 97
    ·rw [if_pos c7] at H
     have XW : decide (97 ≤ (bt a0 mF)) = true := decide_eq_true c7
     clear c7
     refine ic H ?_ ?_ <;> clear H <;> intro LB H
     ·have H' := am H
      repeat clear H
      obtain ⟨Us, p6, q6⟩ := aB a0 mF
      go_wp2
      go_roundg k1
      case measure => have := HK1.out; omega
      case rel => exact ⟨(wrap64 (mF + 1)), dM, H', ⟨by have := HK1.out; omega⟩, gR⟩
     ·by_cases c9 : (bt a0 mF) ≥ 48
      ·rw [if_pos c9] at H
       have PV : decide (48 ≤ (bt a0 mF)) = true := decide_eq_true c9
       clear c9
       refine ic H ?_ ?_ <;> clear H <;> intro NL H
       ·have H' := am H
        repeat clear H
        obtain ⟨Us, p6, q6⟩ := aB a0 mF
        go_wp2
        go_roundg k1
        case measure => have := HK1.out; omega
        case rel => exact ⟨(wrap64 (mF + 1)), dM, H', ⟨by have := HK1.out; omega⟩, gR⟩
       ·refine iq H ?_ ?_ <;> clear H <;> intro My NM a06 H
        ·have H' := am H
         repeat clear H
         obtain ⟨Us, p6, q6⟩ := aB a0 mF
         go_wp2
         go_roundg k1
         case measure => have := HK1.out; omega
         case rel => exact ⟨(wrap64 (mF + 1)), dM, H', ⟨by have := HK1.out; omega⟩, gR⟩
        ·obtain rfl := Option.some.inj H
         repeat clear H
         obtain ⟨Us, p6, q6⟩ := aB a0 mF
         go_wp2
         go_ret
         exact ⟨by first | rfl | (simp; done) | (simp [*]; done), gR⟩
      ·rw [if_neg c9] at H
       have PV : decide (48 ≤ (bt a0 mF)) = false := decide_eq_false c9
       clear c9
       refine iq H ?_ ?_ <;> clear H <;> intro c12 QX Qo H
       ·have H' := am H
        repeat clear H
        obtain ⟨Us, p6, q6⟩ := aB a0 mF
        go_wp2
        go_roundg k1
        case measure => have := HK1.out; omega
        case rel => exact ⟨(wrap64 (mF + 1)), dM, H', ⟨by have := HK1.out; omega⟩, gR⟩
       ·obtain rfl := Option.some.inj H
        repeat clear H
        obtain ⟨Us, p6, q6⟩ := aB a0 mF
        go_wp2
        go_ret
        exact ⟨by first | rfl | (simp; done) | (simp [*]; done), gR⟩
    ·rw [if_neg c7] at H
     have XW : decide (97 ≤ (bt a0 mF)) = false := decide_eq_false c7
     clear c7
     by_cases Lc : (bt a0 mF) ≥ 48
     ·rw [if_pos Lc] at H
      have WD : decide (48 ≤ (bt a0 mF)) = true := decide_eq_true Lc
      clear Lc
      refine ic H ?_ ?_ <;> clear H <;> intro Bb H
      ·have H' := am H
       repeat clear H
       obtain ⟨Us, p6, q6⟩ := aB a0 mF
       go_wp2
       go_roundg k1
       case measure => have := HK1.out; omega
       case rel => exact ⟨(wrap64 (mF + 1)), dM, H', ⟨by have := HK1.out; omega⟩, gR⟩
      ·refine iq H ?_ ?_ <;> clear H <;> intro mi WE aL7 H
       ·have H' := am H
        repeat clear H
        obtain ⟨Us, p6, q6⟩ := aB a0 mF
        go_wp2
        go_roundg k1
        case measure => have := HK1.out; omega
        case rel => exact ⟨(wrap64 (mF + 1)), dM, H', ⟨by have := HK1.out; omega⟩, gR⟩
       ·obtain rfl := Option.some.inj H
        repeat clear H
        obtain ⟨Us, p6, q6⟩ := aB a0 mF
        go_wp2
        go_ret
        exact ⟨by first | rfl | (simp; done) | (simp [*]; done), gR⟩
     ·rw [if_neg Lc] at H
      have WD : decide (48 ≤ (bt a0 mF)) = false := decide_eq_false Lc
      clear Lc
      refine iq H ?_ ?_ <;> clear H <;> intro Bc JG Qs H
      ·have H' := am H
       repeat clear H
       obtain ⟨Us, p6, q6⟩ := aB a0 mF
       go_wp2
       go_roundg k1
       case measure => have := HK1.out; omega
       case rel => exact ⟨(wrap64 (mF + 1)), dM, H', ⟨by have := HK1.out; omega⟩, gR⟩
      ·obtain rfl := Option.some.inj H
       repeat clear H
       obtain ⟨Us, p6, q6⟩ := aB a0 mF
       go_wp2
       go_ret
       exact ⟨by first | rfl | (simp; done) | (simp [*]; done), gR⟩
   ·obtain rfl := Option.some.inj H
    repeat clear H
    go_wp2
    go_ret
    exact ⟨by first | rfl | (simp; done) | (simp [*]; done), gR⟩
 obtain rfl := Option.some.inj H
 repeat clear H
 go_enter Try.func70, Try.ntmps70
 go_wp2_with (first | ((with_reducible refine gC 111 ?_); refine cQ (some 7) Try.func111 (xW.calls (a0.size : Int) 1 8 false _ A2.out) ?_; rintro w' ⟨nd, rfl⟩))
 go_ret
 exact ⟨by first | rfl | (simp; done) | (simp [*]; done), gR⟩
def fM.l0 : Nat → List ByteArray → Int → Option (Bool)
 | 0, _, _ => none
 | k + 1, b, a => if a < (b.length : Int) then (if 0 ≤ a then ((cZ.f k (rdOf ByteArray.empty b a)).bind fun c => (if c = true then (if a > 0 then (if 0 ≤ (wrap64 (a - 1)) then (if (wrap64 (a - 1)) < (b.length : Int) then (if ((Op.bytesLess ((rdOf ByteArray.empty b (wrap64 (a - 1))).toList) ((rdOf ByteArray.empty b a).toList)) = true) then (fM.l0 k b (wrap64 (a + 1))) else (some false)) else (none)) else (none)) else (fM.l0 k b (wrap64 (a + 1)))) else (some false))) else (none)) else (some true)
def fM.f (k : Nat) (l0 : List ByteArray) : Option (Bool) := if (l0.length : Int) > 8 then (some false) else (fM.l0 k l0 0)
theorem fM.calls (k : Nat) (A0 : Option Addr) (c0 : Nat) (l0 : List ByteArray) (r : Bool) (w : World) (sJ : Kd.C Kd.string w A0 l0.length l0) (yR : l0.length ≤ c0) (h : fM.f k l0 = some r) :
  Calls Try.prog 69 #[.slice A0 l0.length c0] w fun e w' => e = .returned (.bool r) ∧ kY w w' := by
 obtain ⟨tO, QP⟩ := mZ2 sJ yR
 clear sJ yR
 unfold fM.f at h
 have H := h
 clear h
 by_cases c2 : (l0.length : Int) > 8
 ·rw [if_pos c2] at H
  have Bf : decide (8 < (l0.length : Int)) = true := decide_eq_true c2
  have Wv : decide (8 < l0.length) = true := decide_eq_true (by omega)
  clear c2
  obtain rfl := Option.some.inj H
  repeat clear H
  go_enter Try.func69, Try.ntmps69
  go_wp2
  repeat (go_quiet (fail); try go_wp2)
  go_ret
  exact ⟨by first | rfl | (simp; done) | (simp [*]; done), gR⟩
 rw [if_neg c2] at H
 have Bf : decide (8 < (l0.length : Int)) = false := decide_eq_false c2
 have Wv : decide (8 < l0.length) = false := decide_eq_false (by omega)
 clear c2
 have H' := am H
 repeat clear H
 go_enter Try.func69, Try.ntmps69
 go_wp2
 repeat (go_quiet (fail); try go_wp2)
 go_loopg [3] k (fun kq v3 w' => ∃ (mF : Int), v3 = .int .i64 mF ∧ aC (fM.l0 kq l0 mF = some r) ∧ aC (kq ≤ k) ∧ kY w w')
 case atStart => exact ⟨(0), dM, H', ⟨Nat.le_refl _⟩, gR⟩
 clear H'
 try clear c2
 try clear Bf
 try clear Wv
 obtain ⟨mF, rfl, HA, HK1, ⟨m1, rfl⟩⟩ := hrel
 cases gk with
 | zero => exact absurd HA.out (by simp [fM.l0])
 | succ k1 =>
  have H := HA.out
  clear HA
  simp only [fM.l0] at H
  refine ic H ?_ ?_ <;> clear H <;> intro IM H
  obtain ⟨yF, H⟩ := cN H
  obtain ⟨lD, A5, H⟩ := bd H
  refine tC H ?_ ?_ <;> clear H <;> intro c6 H <;> subst c6
  by_cases c7 : mF > 0
  rw [if_pos c7] at H
  have XW : decide (0 < mF) = true := decide_eq_true c7
  clear c7
  obtain ⟨ji8, hji8⟩ : ∃ j_ : Int, (wrap64 (mF - 1)) = j_ := ⟨_, rfl⟩
  replace H : (if 0 ≤ (ji8) then (if (ji8) < (l0.length : Int) then (if ((Op.bytesLess ((rdOf ByteArray.empty l0 (ji8)).toList) ((rdOf ByteArray.empty l0 mF).toList)) = true) then (fM.l0 k1 l0 (wrap64 (mF + 1))) else (some false)) else (none)) else (none)) = some r := by first | (rw [hji8] at H; exact H) | (simp only [hji8] at H ⊢; exact H)
  (try rw [hji8] at A5)
  have hji8w : (IntKind.i64.wrap (mF - 1)) = ji8 := (q8 _).trans hji8
  obtain ⟨PV, H⟩ := cN H
  obtain ⟨NL, H⟩ := cN H
  refine tC H ?_ ?_ <;> clear H <;> intro NM H
  have H' := am H
  repeat clear H
  obtain ⟨kK, pN, lH, zO, zR⟩ := aS tO b0 mF
  cases pN
  have jq := trivial
  rotate_left
  obtain rfl := Option.some.inj H
  repeat clear H
  obtain ⟨kK, pN, lH, zO, zR⟩ := aS tO b0 mF
  cases pN
  have jq := trivial
  rotate_left
  rw [if_neg c7] at H
  have XW : decide (0 < mF) = false := decide_eq_false c7
  clear c7
  have H' := am H
  repeat clear H
  obtain ⟨kK, pN, lH, zO, zR⟩ := aS tO b0 mF
  cases pN
  have yh := trivial
  rotate_left
  obtain rfl := Option.some.inj H
  repeat clear H
  obtain ⟨kK, pN, lH, zO, zR⟩ := aS tO b0 mF
  cases pN
  have yi := trivial
  rotate_left
  obtain rfl := Option.some.inj H
  repeat clear H
  rotate_left
  all_goals
   go_wp2_with (first | (go_at_call 70; revert jq; intro jq; revert A5; intro A5; refine cM (cZ.calls k1 (rdOf ByteArray.empty l0 mF) true _ A5.out) ?_; rintro w' ⟨nd, rfl⟩; (try exact dR); obtain ⟨pG, zL, rX, E0, E6⟩ := aS tO b0 (ji8); obtain rfl : kK = pG := (by injection zL); obtain ⟨kD, tZ, nE, HZ, I2⟩ := aS tO b0 mF; obtain rfl : kK = kD := (by injection tZ); clear A5) | (go_at_call 70; revert yh; intro yh; revert A5; intro A5; refine cM (cZ.calls k1 (rdOf ByteArray.empty l0 mF) true _ A5.out) ?_; rintro w' ⟨nd, rfl⟩; (try exact dR); clear A5) | (go_at_call 70; revert yi; intro yi; revert A5; intro A5; refine cM (cZ.calls k1 (rdOf ByteArray.empty l0 mF) false _ A5.out) ?_; rintro w' ⟨nd, rfl⟩; (try exact dR); clear A5))
  ·repeat (go_quiet (first | (go_at_call 70; refine cM (cZ.calls k1 (rdOf ByteArray.empty l0 mF) true _ A5.out) ?_; rintro w' ⟨nd, rfl⟩; (try exact dR); obtain ⟨pG, zL, rX, E0, E6⟩ := aS tO b0 (ji8); obtain rfl : kK = pG := (by injection zL); obtain ⟨kD, tZ, nE, HZ, I2⟩ := aS tO b0 mF; obtain rfl : kK = kD := (by injection tZ))); try go_wp2_with (first | (go_at_call 70; refine cM (cZ.calls k1 (rdOf ByteArray.empty l0 mF) true _ A5.out) ?_; rintro w' ⟨nd, rfl⟩; (try exact dR); obtain ⟨pG, zL, rX, E0, E6⟩ := aS tO b0 (ji8); obtain rfl : kK = pG := (by injection zL); obtain ⟨kD, tZ, nE, HZ, I2⟩ := aS tO b0 mF; obtain rfl : kK = kD := (by injection tZ))))
   go_roundg k1
   case measure => have := HK1.out; omega
   case rel => exact ⟨(wrap64 (mF + 1)), dM, H', ⟨by have := HK1.out; omega⟩, gR⟩
  ·repeat (go_quiet (first | (go_at_call 70; refine cM (cZ.calls k1 (rdOf ByteArray.empty l0 mF) true _ A5.out) ?_; rintro w' ⟨nd, rfl⟩; (try exact dR); obtain ⟨pG, zL, rX, E0, E6⟩ := aS tO b0 (ji8); obtain rfl : kK = pG := (by injection zL); obtain ⟨kD, tZ, nE, HZ, I2⟩ := aS tO b0 mF; obtain rfl : kK = kD := (by injection tZ))); try go_wp2_with (first | (go_at_call 70; refine cM (cZ.calls k1 (rdOf ByteArray.empty l0 mF) true _ A5.out) ?_; rintro w' ⟨nd, rfl⟩; (try exact dR); obtain ⟨pG, zL, rX, E0, E6⟩ := aS tO b0 (ji8); obtain rfl : kK = pG := (by injection zL); obtain ⟨kD, tZ, nE, HZ, I2⟩ := aS tO b0 mF; obtain rfl : kK = kD := (by injection tZ))))
   go_ret
   exact ⟨by first | rfl | (simp; done) | (simp only [← hji8] <;> (first | rfl | simp)) | (simp [*]; done), gR⟩
  ·repeat (go_quiet (first | (go_at_call 70; refine cM (cZ.calls k1 (rdOf ByteArray.empty l0 mF) true _ A5.out) ?_; rintro w' ⟨nd, rfl⟩; (try exact dR))); try go_wp2_with (first | (go_at_call 70; refine cM (cZ.calls k1 (rdOf ByteArray.empty l0 mF) true _ A5.out) ?_; rintro w' ⟨nd, rfl⟩; (try exact dR))))
   go_roundg k1
   case measure => have := HK1.out; omega
   case rel => exact ⟨(wrap64 (mF + 1)), dM, H', ⟨by have := HK1.out; omega⟩, gR⟩
  ·repeat (go_quiet (first | (go_at_call 70; refine cM (cZ.calls k1 (rdOf ByteArray.empty l0 mF) false _ A5.out) ?_; rintro w' ⟨nd, rfl⟩; (try exact dR))); try go_wp2_with (first | (go_at_call 70; refine cM (cZ.calls k1 (rdOf ByteArray.empty l0 mF) false _ A5.out) ?_; rintro w' ⟨nd, rfl⟩; (try exact dR))))
   go_ret
   exact ⟨by first | rfl | (simp; done) | (simp [*]; done), gR⟩
  ·repeat (go_quiet (fail); try go_wp2)
   go_ret
   exact ⟨by first | rfl | (simp; done) | (simp [*]; done), gR⟩
def dO.l0 : Nat → List ByteArray → ByteArray → Int → Option (Bool)
 | 0, _, _, _ => none
 | k + 1, b, c, a => if a < (b.length : Int) then (if 0 ≤ a then (if (rdOf ByteArray.empty b a).toList = c.toList then (some true) else (dO.l0 k b c (wrap64 (a + 1)))) else (none)) else (some false)
def dO.f (k : Nat) (l0 : List ByteArray) (a1 : ByteArray) : Option (Bool) := dO.l0 k l0 a1 0
theorem dO.calls (k : Nat) (A0 : Option Addr) (c0 : Nat) (l0 : List ByteArray) (a1 : ByteArray) (r : Bool) (w : World) (sJ : Kd.C Kd.string w A0 l0.length l0) (yR : l0.length ≤ c0) (h : dO.f k l0 a1 = some r) :
  Calls Try.prog 80 #[.slice A0 l0.length c0, .string a1] w fun e w' => e = .returned (.bool r) ∧ kY w w' := by
 obtain ⟨tO, QP⟩ := mZ2 sJ yR
 clear sJ yR
 unfold dO.f at h
 have H := h
 clear h
 have H' := am H
 repeat clear H
 go_enter Try.func80, Try.ntmps80
 go_wp2
 go_loopg [5] k (fun kq v5 w' => ∃ (dW : Int), v5 = .int .i64 dW ∧ aC (dO.l0 kq l0 a1 dW = some r) ∧ aC (kq ≤ k) ∧ kY w w')
 case atStart => exact ⟨(0), dM, H', ⟨Nat.le_refl _⟩, gR⟩
 clear H'
 obtain ⟨dW, rfl, HA, HK1, ⟨m1, rfl⟩⟩ := hrel
 cases gk with
 | zero => exact absurd HA.out (by simp [dO.l0])
 | succ k1 =>
  have H := HA.out
  clear HA
  simp only [dO.l0] at H
  refine ic H ?_ ?_ <;> clear H <;> intro IM H
  ·obtain ⟨yF, H⟩ := cN H
   refine iq H ?_ ?_ <;> clear H <;> intro c5 IP aU2 H
   ·obtain rfl := Option.some.inj H
    repeat clear H
    obtain ⟨kK, pN, lH, zO, zR⟩ := aS tO b0 dW
    cases pN
    go_wp2
    go_ret
    exact ⟨by first | rfl | (simp; done) | (simp [*]; done), gR⟩
   ·have H' := am H
    repeat clear H
    obtain ⟨kK, pN, lH, zO, zR⟩ := aS tO b0 dW
    cases pN
    go_wp2
    go_roundg k1
    case measure => have := HK1.out; omega
    case rel => exact ⟨(wrap64 (dW + 1)), dM, H', ⟨by have := HK1.out; omega⟩, gR⟩
  ·obtain rfl := Option.some.inj H
   repeat clear H
   go_wp2
   go_ret
   exact ⟨by first | rfl | (simp; done) | (simp [*]; done), gR⟩
def dA.l0 : Nat → List ByteArray → List ByteArray → Int → Option (Bool)
 | 0, _, _, _ => none
 | k + 1, b, c, a => if a < (b.length : Int) then (if 0 ≤ a then ((dO.f k c (rdOf ByteArray.empty b a)).bind fun d => (if d = true then (if a > 0 then (if 0 ≤ (wrap64 (a - 1)) then (if (wrap64 (a - 1)) < (b.length : Int) then (if ((Op.bytesLess ((rdOf ByteArray.empty b (wrap64 (a - 1))).toList) ((rdOf ByteArray.empty b a).toList)) = true) then (dA.l0 k b c (wrap64 (a + 1))) else (some false)) else (none)) else (none)) else (dA.l0 k b c (wrap64 (a + 1)))) else (some false))) else (none)) else (some true)
def dA.f (k : Nat) (l0 : List ByteArray) (l1 : List ByteArray) : Option (Bool) := dA.l0 k l0 l1 0
theorem dA.calls (k : Nat) (A0 : Option Addr) (c0 : Nat) (l0 : List ByteArray) (A1 : Option Addr) (c1 : Nat) (l1 : List ByteArray) (r : Bool) (w : World) (sJ : Kd.C Kd.string w A0 l0.length l0) (yR : l0.length ≤ c0) (FG : Kd.C Kd.string w A1 l1.length l1) (FF : l1.length ≤ c1) (h : dA.f k l0 l1 = some r) :
  Calls Try.prog 71 #[.slice A0 l0.length c0, .slice A1 l1.length c1] w fun e w' => e = .returned (.bool r) ∧ kY w w' := by
 obtain ⟨tO, QP⟩ := mZ2 sJ yR
 obtain ⟨IL, LA⟩ := mZ2 FG FF
 clear sJ yR FG FF
 unfold dA.f at h
 have H := h
 clear h
 have H' := am H
 repeat clear H
 go_enter Try.func71, Try.ntmps71
 go_wp2
 repeat (go_quiet (fail); try go_wp2)
 go_loopg [5] k (fun kq v5 w' => ∃ (dW : Int), v5 = .int .i64 dW ∧ aC (dA.l0 kq l0 l1 dW = some r) ∧ aC (kq ≤ k) ∧ kY w w')
 case atStart => exact ⟨(0), dM, H', ⟨Nat.le_refl _⟩, gR⟩
 clear H'
 try clear c1
 obtain ⟨dW, rfl, HA, HK1, ⟨m1, rfl⟩⟩ := hrel
 cases gk with
 | zero => exact absurd HA.out (by simp [dA.l0])
 | succ k1 =>
  have H := HA.out
  clear HA
  simp only [dA.l0] at H
  refine ic H ?_ ?_ <;> clear H <;> intro IM H
  obtain ⟨yF, H⟩ := cN H
  obtain ⟨lD, A5, H⟩ := bd H
  refine tC H ?_ ?_ <;> clear H <;> intro c6 H <;> subst c6
  by_cases c7 : dW > 0
  rw [if_pos c7] at H
  have XW : decide (0 < dW) = true := decide_eq_true c7
  clear c7
  obtain ⟨ji8, hji8⟩ : ∃ j_ : Int, (wrap64 (dW - 1)) = j_ := ⟨_, rfl⟩
  replace H : (if 0 ≤ (ji8) then (if (ji8) < (l0.length : Int) then (if ((Op.bytesLess ((rdOf ByteArray.empty l0 (ji8)).toList) ((rdOf ByteArray.empty l0 dW).toList)) = true) then (dA.l0 k1 l0 l1 (wrap64 (dW + 1))) else (some false)) else (none)) else (none)) = some r := by first | (rw [hji8] at H; exact H) | (simp only [hji8] at H ⊢; exact H)
  (try rw [hji8] at A5)
  have hji8w : (IntKind.i64.wrap (dW - 1)) = ji8 := (q8 _).trans hji8
  obtain ⟨PV, H⟩ := cN H
  obtain ⟨NL, H⟩ := cN H
  refine tC H ?_ ?_ <;> clear H <;> intro NM H
  have H' := am H
  repeat clear H
  obtain ⟨kK, pN, lH, zO, zR⟩ := aS tO b0 dW
  cases pN
  have jr := trivial
  rotate_left
  obtain rfl := Option.some.inj H
  repeat clear H
  obtain ⟨kK, pN, lH, zO, zR⟩ := aS tO b0 dW
  cases pN
  have jr := trivial
  rotate_left
  rw [if_neg c7] at H
  have XW : decide (0 < dW) = false := decide_eq_false c7
  clear c7
  have H' := am H
  repeat clear H
  obtain ⟨kK, pN, lH, zO, zR⟩ := aS tO b0 dW
  cases pN
  have yj := trivial
  rotate_left
  obtain rfl := Option.some.inj H
  repeat clear H
  obtain ⟨kK, pN, lH, zO, zR⟩ := aS tO b0 dW
  cases pN
  have yk := trivial
  rotate_left
  obtain rfl := Option.some.inj H
  repeat clear H
  rotate_left
  all_goals
   go_wp2_with (first | (go_at_call 80; revert jr; intro jr; revert A5; intro A5; refine cM (dO.calls k1 _ _ l1 (rdOf ByteArray.empty l0 dW) true _ (pC IL.1) LA.1 A5.out) ?_; rintro w' ⟨nd, rfl⟩; (try exact dR); obtain ⟨pG, zL, rX, E0, E6⟩ := aS tO b0 (ji8); obtain rfl : kK = pG := (by injection zL); obtain ⟨kD, tZ, nE, HZ, I2⟩ := aS tO b0 dW; obtain rfl : kK = kD := (by injection tZ); clear A5) | (go_at_call 80; revert yj; intro yj; revert A5; intro A5; refine cM (dO.calls k1 _ _ l1 (rdOf ByteArray.empty l0 dW) true _ (pC IL.1) LA.1 A5.out) ?_; rintro w' ⟨nd, rfl⟩; (try exact dR); clear A5) | (go_at_call 80; revert yk; intro yk; revert A5; intro A5; refine cM (dO.calls k1 _ _ l1 (rdOf ByteArray.empty l0 dW) false _ (pC IL.1) LA.1 A5.out) ?_; rintro w' ⟨nd, rfl⟩; (try exact dR); clear A5))
  ·repeat (go_quiet (first | (go_at_call 80; refine cM (dO.calls k1 _ _ l1 (rdOf ByteArray.empty l0 dW) true _ (pC IL.1) LA.1 A5.out) ?_; rintro w' ⟨nd, rfl⟩; (try exact dR); obtain ⟨pG, zL, rX, E0, E6⟩ := aS tO b0 (ji8); obtain rfl : kK = pG := (by injection zL); obtain ⟨kD, tZ, nE, HZ, I2⟩ := aS tO b0 dW; obtain rfl : kK = kD := (by injection tZ))); try go_wp2_with (first | (go_at_call 80; refine cM (dO.calls k1 _ _ l1 (rdOf ByteArray.empty l0 dW) true _ (pC IL.1) LA.1 A5.out) ?_; rintro w' ⟨nd, rfl⟩; (try exact dR); obtain ⟨pG, zL, rX, E0, E6⟩ := aS tO b0 (ji8); obtain rfl : kK = pG := (by injection zL); obtain ⟨kD, tZ, nE, HZ, I2⟩ := aS tO b0 dW; obtain rfl : kK = kD := (by injection tZ))))
   go_roundg k1
   case measure => have := HK1.out; omega
   case rel => exact ⟨(wrap64 (dW + 1)), dM, H', ⟨by have := HK1.out; omega⟩, gR⟩
  ·repeat (go_quiet (first | (go_at_call 80; refine cM (dO.calls k1 _ _ l1 (rdOf ByteArray.empty l0 dW) true _ (pC IL.1) LA.1 A5.out) ?_; rintro w' ⟨nd, rfl⟩; (try exact dR); obtain ⟨pG, zL, rX, E0, E6⟩ := aS tO b0 (ji8); obtain rfl : kK = pG := (by injection zL); obtain ⟨kD, tZ, nE, HZ, I2⟩ := aS tO b0 dW; obtain rfl : kK = kD := (by injection tZ))); try go_wp2_with (first | (go_at_call 80; refine cM (dO.calls k1 _ _ l1 (rdOf ByteArray.empty l0 dW) true _ (pC IL.1) LA.1 A5.out) ?_; rintro w' ⟨nd, rfl⟩; (try exact dR); obtain ⟨pG, zL, rX, E0, E6⟩ := aS tO b0 (ji8); obtain rfl : kK = pG := (by injection zL); obtain ⟨kD, tZ, nE, HZ, I2⟩ := aS tO b0 dW; obtain rfl : kK = kD := (by injection tZ))))
   go_ret
   exact ⟨by first | rfl | (simp; done) | (simp only [← hji8] <;> (first | rfl | simp)) | (simp [*]; done), gR⟩
  ·repeat (go_quiet (first | (go_at_call 80; refine cM (dO.calls k1 _ _ l1 (rdOf ByteArray.empty l0 dW) true _ (pC IL.1) LA.1 A5.out) ?_; rintro w' ⟨nd, rfl⟩; (try exact dR))); try go_wp2_with (first | (go_at_call 80; refine cM (dO.calls k1 _ _ l1 (rdOf ByteArray.empty l0 dW) true _ (pC IL.1) LA.1 A5.out) ?_; rintro w' ⟨nd, rfl⟩; (try exact dR))))
   go_roundg k1
   case measure => have := HK1.out; omega
   case rel => exact ⟨(wrap64 (dW + 1)), dM, H', ⟨by have := HK1.out; omega⟩, gR⟩
  ·repeat (go_quiet (first | (go_at_call 80; refine cM (dO.calls k1 _ _ l1 (rdOf ByteArray.empty l0 dW) false _ (pC IL.1) LA.1 A5.out) ?_; rintro w' ⟨nd, rfl⟩; (try exact dR))); try go_wp2_with (first | (go_at_call 80; refine cM (dO.calls k1 _ _ l1 (rdOf ByteArray.empty l0 dW) false _ (pC IL.1) LA.1 A5.out) ?_; rintro w' ⟨nd, rfl⟩; (try exact dR))))
   go_ret
   exact ⟨by first | rfl | (simp; done) | (simp [*]; done), gR⟩
  ·repeat (go_quiet (fail); try go_wp2)
   go_ret
   exact ⟨by first | rfl | (simp; done) | (simp [*]; done), gR⟩
def fF.l0 : Nat → List ByteArray → List ByteArray → Int → Option (Bool)
 | 0, _, _, _ => none
 | k + 1, b, c, a => if a < (b.length : Int) then (if 0 ≤ a then ((dO.f k c (rdOf ByteArray.empty b a)).bind fun d => (if d = true then (some true) else (fF.l0 k b c (wrap64 (a + 1))))) else (none)) else (some false)
def fF.f (k : Nat) (l0 : List ByteArray) (l1 : List ByteArray) : Option (Bool) := fF.l0 k l0 l1 0
theorem fF.calls (k : Nat) (A0 : Option Addr) (c0 : Nat) (l0 : List ByteArray) (A1 : Option Addr) (c1 : Nat) (l1 : List ByteArray) (r : Bool) (w : World) (sJ : Kd.C Kd.string w A0 l0.length l0) (yR : l0.length ≤ c0) (FG : Kd.C Kd.string w A1 l1.length l1) (FF : l1.length ≤ c1) (h : fF.f k l0 l1 = some r) :
  Calls Try.prog 72 #[.slice A0 l0.length c0, .slice A1 l1.length c1] w fun e w' => e = .returned (.bool r) ∧ kY w w' := by
 obtain ⟨tO, QP⟩ := mZ2 sJ yR
 obtain ⟨IL, LA⟩ := mZ2 FG FF
 clear sJ yR FG FF
 unfold fF.f at h
 have H := h
 clear h
 have H' := am H
 repeat clear H
 go_enter Try.func72, Try.ntmps72
 go_wp2
 go_loopg [5] k (fun kq v5 w' => ∃ (dW : Int), v5 = .int .i64 dW ∧ aC (fF.l0 kq l0 l1 dW = some r) ∧ aC (kq ≤ k) ∧ kY w w')
 case atStart => exact ⟨(0), dM, H', ⟨Nat.le_refl _⟩, gR⟩
 clear H'
 try clear c1
 obtain ⟨dW, rfl, HA, HK1, ⟨m1, rfl⟩⟩ := hrel
 cases gk with
 | zero => exact absurd HA.out (by simp [fF.l0])
 | succ k1 =>
  have H := HA.out
  clear HA
  simp only [fF.l0] at H
  refine ic H ?_ ?_ <;> clear H <;> intro IM H
  ·obtain ⟨yF, H⟩ := cN H
   obtain ⟨lD, A5, H⟩ := bd H
   refine tC H ?_ ?_ <;> clear H <;> intro c6 H <;> subst c6
   ·obtain rfl := Option.some.inj H
    repeat clear H
    obtain ⟨kK, pN, lH, zO, zR⟩ := aS tO b0 dW
    cases pN
    go_wp2_with (first | ((with_reducible refine gC 80 ?_); refine cQ (some 17) Try.func80 (dO.calls k1 _ _ l1 (rdOf ByteArray.empty l0 dW) true _ (pC IL.1) LA.1 A5.out) ?_; rintro w' ⟨nd, rfl⟩))
    go_ret
    exact ⟨by first | rfl | (simp; done) | (simp [*]; done), gR⟩
   ·have H' := am H
    repeat clear H
    obtain ⟨kK, pN, lH, zO, zR⟩ := aS tO b0 dW
    cases pN
    go_wp2_with (first | ((with_reducible refine gC 80 ?_); refine cQ (some 17) Try.func80 (dO.calls k1 _ _ l1 (rdOf ByteArray.empty l0 dW) false _ (pC IL.1) LA.1 A5.out) ?_; rintro w' ⟨nd, rfl⟩))
    go_roundg k1
    case measure => have := HK1.out; omega
    case rel => exact ⟨(wrap64 (dW + 1)), dM, H', ⟨by have := HK1.out; omega⟩, gR⟩
  ·obtain rfl := Option.some.inj H
   repeat clear H
   go_wp2
   go_ret
   exact ⟨by first | rfl | (simp; done) | (simp [*]; done), gR⟩
mutual
def aK.j0 : Nat → Bool → List ByteArray → List (S56) → Option (Bool)
 | 0, _, _, _ => none
 | k + 1, a, b, c => if a = true then (some false) else (aK.l0 k 0 b c)
def aK.l0 : Nat → Int → List ByteArray → List (S56) → Option (Bool)
 | 0, _, _, _ => none
 | k + 1, a, c, b => if a < (b.length : Int) then (if 0 ≤ a then ((cZ.f k ((aA b a).f0)).bind fun d => (if d = true then (if a > 0 then (if 0 ≤ (wrap64 (a - 1)) then (if (wrap64 (a - 1)) < (b.length : Int) then (if ((Op.bytesLess (((aA b (wrap64 (a - 1))).f0).toList) (((aA b a).f0).toList)) = true) then ((dA.f k ((aA b a).f2) c).bind fun e => (if e = true then ((dA.f k ((aA b a).f1) ((aA b a).f2)).bind fun g => (aK.j2 k a (!g) c b ((aA b a).f0) ((aA b a).f1) ((aA b a).f2))) else (aK.j2 k a true c b ((aA b a).f0) ((aA b a).f1) ((aA b a).f2)))) else (aK.j2 k a true c b ((aA b a).f0) ((aA b a).f1) ((aA b a).f2))) else (none)) else (none)) else ((dA.f k ((aA b a).f2) c).bind fun h => (if h = true then ((dA.f k ((aA b a).f1) ((aA b a).f2)).bind fun i => (aK.j2 k a (!i) c b ((aA b a).f0) ((aA b a).f1) ((aA b a).f2))) else (aK.j2 k a true c b ((aA b a).f0) ((aA b a).f1) ((aA b a).f2))))) else (aK.j2 k a true c b ((aA b a).f0) ((aA b a).f1) ((aA b a).f2)))) else (none)) else (some true)
def aK.j2 : Nat → Int → Bool → List ByteArray → List (S56) → ByteArray → List ByteArray → List ByteArray → Option (Bool)
 | 0, _, _, _, _, _, _, _ => none
 | k + 1, a, b, c, d, e, f, g => if b = true then (some false) else (aK.l1 k a 0 c d e f g)
def aK.l1 : Nat → Int → Int → List ByteArray → List (S56) → ByteArray → List ByteArray → List ByteArray → Option (Bool)
 | 0, _, _, _, _, _, _, _ => none
 | k + 1, c, a, d, b, g, e, h => if a < c then (if 0 ≤ a then (if a < (b.length : Int) then ((fF.f k e ((aA b a).f1)).bind fun i => (if i = true then (some false) else (aK.l1 k c (wrap64 (a + 1)) d b g e h))) else (none)) else (none)) else (aK.l0 k (wrap64 (c + 1)) d b)
end
def aK.f (k : Nat) (bF : List ByteArray) (aN : List (S56)) : Option (Bool) := (fM.f k bF).bind fun a => (if a = true then (aK.j0 k (decide ((aN.length : Int) > 5)) bF aN) else (aK.j0 k true bF aN))
def aK.T7 : Bool × List (List Nat × List Nat) := (true, [([], []), ([0], [0]), ([1], [1]), ([2], [2]), ([3, 2], [3]), ([4], [4]), ([5, 4], [4, 5]), ([6, 4, 4], [4, 6]), ([7], [7]), ([8, 7], [7, 8]), ([7], [7]), ([10, 7], [7, 10]), ([9, 11, 7], [7, 9, 11]), ([12, 7], [7, 12]), ([13, 7], [7, 13]), ([7], [7]), ([15, 7], [7, 15]), ([14, 16, 7], [7, 14, 16]), ([7, 17, 4], [4, 7, 17]), ([4, 18], [4, 18]), ([19, 7], [19]), ([20], [20]), ([21, 20], [20, 21]), ([20], [20]), ([23, 20], [20, 23]), ([22, 24, 20, 20], [20, 22, 24]), ([25, 20], [20, 25]), ([20, 26], [20, 26]), ([27, 25], [27]), ([28], [28]), ([29, 28], [28, 29]), ([28], [28]), ([31, 28], [28, 31]), ([30, 32, 28, 28], [28, 30, 32]), ([33, 28], [28, 33]), ([28, 34], [28, 34])])
def aK.B7 : List Nat := [0, 1, 3, 7, 15, 31, 63, 127, 255, 511, 255, 1279, 4095, 8191, 16383, 255, 33023, 131071, 262143, 524287, 1048575, 2097151, 4194303, 2097151, 10485759, 33554431, 67108863, 134217727, 268435455, 536870911, 1073741823, 536870911, 2684354559, 8589934591, 17179869183, 34359738367]
theorem aK.tab7 : rtab .any (opsOf Try.f22 7) = aK.T7 := by kernel_rfl
theorem aK.II : kP aK.T7.2 aK.B7 = true := by kernel_rfl
def aK.T12 : Bool × List (List Nat × List Nat) := (true, [([], []), ([0], [0]), ([], []), ([2], [2]), ([], []), ([3, 4], [3, 4]), ([5], [5]), ([6], [6]), ([1, 7], [1, 7])])
def aK.B12 : List Nat := [0, 1, 0, 4, 0, 28, 60, 124, 255]
theorem aK.fe : rtab .any (opsOf Try.f22 12) = aK.T12 := by kernel_rfl
theorem aK.Qf : kP aK.T12.2 aK.B12 = true := by kernel_rfl
theorem aK.calls (k : Nat) (eU : Option Addr) (eY : Nat) (bF : List ByteArray) (fG : Option Addr) (eQ : Nat) (aN : List (S56)) (r : Bool) (w : World) (iG : Kd.C Kd.string w eU bF.length bF) (iD : bF.length ≤ eY) (iC : Kd.C k56 w fG aN.length aN) (iE : aN.length ≤ eQ) (h : aK.f k bF aN = some r) :
  Calls Try.prog 22 #[.agg #[.slice eU bF.length eY, .slice fG aN.length eQ]] w fun e w' => e = .returned (.bool r) ∧ Below w.heap.size w w' := by
 have hu31 := Try.underlying31
 have hu56 := Try.underlying56
 obtain ⟨dY, dX⟩ := mZ2 iG iD
 obtain ⟨cU, f4⟩ := mZ2 iC iE
 clear iG iD iC iE
 have HB := am (Below.refl w.heap.size w)
 unfold aK.f at h
 have H := h
 clear h
 have zZ := am H
 clear H
 go_enter Try.func22, Try.ntmps22
 go_upto_region 1 with (first | ((with_reducible refine gD 1 ?_); (try (refine mD (by rfl) ?_; dsimp only)); refine bX 1 #[.slice eU bF.length eY, .slice fG aN.length eQ] 31 ?_; intro aT hg w3 hbox hb; have a6 := am hbox; have g5 := am (oS : w.heap.size ≤ aT); have iJ := g5; replace HB := bS eG hb; clear hb hbox hg))
 (try simp only [Act.put, List.setIfInBounds_toArray, List.set_cons_zero, List.set_cons_succ])
 go_cut [15] (fun v15 wc => ∃ (kq : Nat) (Ud : Bool), v15 = .bool Ud ∧ aC (aK.j0 kq Ud bF aN = some r) ∧ aC (kq ≤ k) ∧ aC (wc.heap[aT]? = some (.cells #[(.slice eU bF.length eY), (.slice fG aN.length eQ)] 31 (0, 0))) ∧ aC (Below w.heap.size w wc))
 case first =>
  have H := zZ.1
  clear zZ
  obtain ⟨lD, A4, H⟩ := bd H
  refine tC H ?_ ?_ <;> clear H <;> intro c5 H <;> subst c5
  ·have H' := am H
   repeat clear H
   have Z6 := cz2 a6
   go_wp2_with (first | ((with_reducible refine gC 69 ?_); refine cQ (some 8) Try.func69 (fM.calls k _ _ bF true _ (pB dY) dX.1 A4.out) ?_; rintro w' ⟨nd, rfl⟩))
   go_meet
   exact ⟨_, (decide ((aN.length : Int) > 5)), dM, H', ⟨by first | omega | exact Nat.le_refl _⟩, ⟨rB a6.1⟩, ⟨eE⟩⟩
  have H' := am H
  repeat clear H
  have Z7 := cz2 a6
  go_wp2_with (first | ((with_reducible refine gC 69 ?_); refine cQ (some 8) Try.func69 (fM.calls k _ _ bF false _ (pB dY) dX.1 A4.out) ?_; rintro w' ⟨nd, rfl⟩))
  go_meet
  exact ⟨_, (true), dM, H', ⟨by first | omega | exact Nat.le_refl _⟩, ⟨rB a6.1⟩, ⟨eE⟩⟩
 clear zZ
 obtain ⟨kq, Ud, rfl, HA, HJ1, a6, HB⟩ := hcut
 cases kq with
 | zero => exact absurd HA.out (by simp [aK.j0])
 | succ kj1 =>
  have H := HA.out
  clear HA
  simp only [aK.j0] at H
  refine tC H ?_ ?_ <;> clear H <;> intro c8 H <;> subst c8
  ·obtain rfl := Option.some.inj H
   repeat clear H
   go_wp2
   go_ret
   exact ⟨eR, eE⟩
  ·have H' := am H
   repeat clear H
   go_wp2
   go_loopg [3] kj1 (fun kq v3 w' => ∃ (hD : Int), v3 = .int .i64 hD ∧ aC (aK.l0 kq hD bF aN = some r) ∧ aC (kq ≤ kj1) ∧ aC (w'.heap[aT]? = some (.cells #[(.slice eU bF.length eY), (.slice fG aN.length eQ)] 31 (0, 0))) ∧ aC (Below w.heap.size w w'))
   case atStart => exact ⟨(0), dM, H', ⟨Nat.le_refl _⟩, ⟨rB a6.1⟩, ⟨eE⟩⟩
   case round =>
    clear H'
    try clear c8
    obtain ⟨hD, rfl, HA, HK2, a6, HB⟩ := hrel
    cases gk with
    | zero => exact absurd HA.out (by simp [aK.l0])
    | succ k2 =>
     have H := HA.out
     clear HA
     simp only [aK.l0] at H
     refine ic H ?_ ?_ <;> clear H <;> intro PV H
     ·obtain ⟨NL, H⟩ := cN H
      have jb := am H
      clear H
      have bv := cz2 a6
      obtain ⟨pG, IY, JE, IZ, JF, zL, rX, aBD, aBE, S6, S1, K6, K5, E0, E6⟩ := aT56 cU HB hD
      cases zL
      go_upto_region 7 with (first | ((with_reducible refine gD 4 ?_); (try (refine mD (by rfl) ?_; dsimp only)); refine bX 4 #[.string (⟨#[]⟩ : ByteArray), .slice none 0 0, .slice none 0 0] 56 ?_; intro NR hg Uv hbox hb; have hJ := am hbox; have xd := am (I1 : w.heap.size ≤ NR); have TC := xd; replace HB := bS eE hb; have mI := nL aW hg; have C3 := nG aW hg; replace a6 := bB aW hb; clear hb hbox hg; have Z14 := nZ1 C3 mI; have Z15 := cz3 hJ))
      (try simp only [Act.put, List.setIfInBounds_toArray, List.set_cons_zero, List.set_cons_succ])
      go_cut [63] (fun v63 wc => ∃ (kq : Nat) (Gl : Bool), v63 = .bool Gl ∧ aC (aK.j2 kq hD Gl bF aN ((aA aN hD).f0) ((aA aN hD).f1) ((aA aN hD).f2) = some r) ∧ aC (kq ≤ k2) ∧ aC (wc.heap[aT]? = some (.cells #[(.slice eU bF.length eY), (.slice (some pG) aN.length eQ)] 31 (0, 0))) ∧ aC (wc.heap[NR]? = some (.cells #[.string ((aA aN hD).f0), (.slice IY ((aA aN hD).f1).length JE), (.slice IZ ((aA aN hD).f2).length JF)] 56 (0, 0))) ∧ aC (Below w.heap.size w wc))
      case first =>
       have H := jb.1
       clear jb
       obtain ⟨oH, Kn, H⟩ := bd H
       refine tC H ?_ ?_ <;> clear H <;> intro c17 H <;> subst c17
       ·by_cases Ei : hD > 0
        ·rw [if_pos Ei] at H
         have CS : decide (0 < hD) = true := decide_eq_true Ei
         clear Ei
         (first | rw [CS] | (simp only [q8, uS]; rw [CS]) | skip)
         obtain ⟨ji19, hji19⟩ : ∃ j_ : Int, (wrap64 (hD - 1)) = j_ := ⟨_, rfl⟩
         replace H : (if 0 ≤ (ji19) then (if (ji19) < (aN.length : Int) then (if ((Op.bytesLess (((aA aN (ji19)).f0).toList) (((aA aN hD).f0).toList)) = true) then ((dA.f k2 ((aA aN hD).f2) bF).bind fun dZ => (if dZ = true then ((dA.f k2 ((aA aN hD).f1) ((aA aN hD).f2)).bind fun lJ => (aK.j2 k2 hD (!lJ) bF aN ((aA aN hD).f0) ((aA aN hD).f1) ((aA aN hD).f2))) else (aK.j2 k2 hD true bF aN ((aA aN hD).f0) ((aA aN hD).f1) ((aA aN hD).f2)))) else (aK.j2 k2 hD true bF aN ((aA aN hD).f0) ((aA aN hD).f1) ((aA aN hD).f2))) else (none)) else (none)) = some r := by first | (rw [hji19] at H; exact H) | (simp only [hji19] at H ⊢; exact H)
         (try rw [hji19] at Kn)
         have hji19w : (IntKind.i64.wrap (hD - 1)) = ji19 := (q8 _).trans hji19
         obtain ⟨a08, H⟩ := cN H
         obtain ⟨aLD, H⟩ := cN H
         refine tC H ?_ ?_ <;> clear H <;> intro a0A H
         ·obtain ⟨dZ, Gs, H⟩ := bd H
          refine tC H ?_ ?_ <;> clear H <;> intro Ej H <;> subst Ej
          ·obtain ⟨lJ, A25, H⟩ := bd H
           have H' := am H
           repeat clear H
           try go_wp2
           obtain ⟨w26, eW_⟩ := eW3 Uv NR (.string ((aA aN hD).f0)) (.slice IY ((aA aN hD).f1).length JE) (.slice IZ ((aA aN hD).f2).length JF)
           rw [← eW_]
           replace a6 := uF3 eW_ a6 mI
           replace hJ := uP3 eW_ hJ
           replace HB := uC3 eW_ HB TC
           clear eW_
           replace a6 := BD a6
           replace hJ := BD hJ
           replace HB := am (aV HB.1)
           obtain ⟨xS, wK, wL, xB, xI, F4, nQ, nR, nS, qU, qV, qW, qO, wX, tW, BO, Q6, JT⟩ := qJ cU HB (ji19)
           obtain rfl : pG = xS := (by injection F4)
           refine sT [] 36 (uB3 hJ (uB2 a6 (uBx HB nQ (uBx HB nR (uAx HB nS))))) (fun hHeld => ?_)
           refine eO aK.tab7 aK.II (fun HT_ HW_ => ?_)
           generalize w26.drew = w27 at a6 hJ HB qO tW qU qV qW hHeld ⊢
           refine pU1 0 ?_
           refine tK8 1 (some 29) ?_
           refine oN 2 (some 30) fun K hK => ?_
           refine gQ Try.func70 (cZ.calls k2 ((aA aN hD).f0) true _ Kn.out) ?_
           rintro w' ⟨nd, rfl⟩
           refine nK hK (uB3 hJ (uB2 a6 (uBx HB nQ (uBx HB nR (uAx HB nS))))).1 fun hHeld => ?_
           clear hK K
           refine pU8 3 4 5 6 7 8 10 11 ?_
           refine pU1 15 ?_
           refine tK8 9 (some 37) ?_
           refine pU2 12 13 ?_
           refine tK8 14 (some 42) ?_
           refine tK8 16 (some 44) ?_
           refine pU6 17 18 19 20 21 23 ?_
           refine tK8 22 (some 50) ?_
           refine tK8 24 (some 52) ?_
           refine oN 25 (some 53) fun K hK => ?_
           refine gQ Try.func71 (dA.calls k2 _ _ ((aA aN hD).f2) _ _ bF true _ (pC (Kd.aX K6.1 DL)) K5.1 (pC (Kd.aX dY.1 DL)) dX.1 Gs.out) ?_
           rintro w' ⟨nd, rfl⟩
           refine nK hK (uB3 hJ (uB2 a6 (uBx HB nQ (uBx HB nR (uAx HB nS))))).1 fun hHeld => ?_
           clear hK K
           refine pU5 26 27 28 29 31 ?_
           refine tK8 30 (some 58) ?_
           refine tK8 32 (some 60) ?_
           refine oN 33 (some 61) fun K hK => ?_
           refine gQ Try.func71 (dA.calls k2 _ _ ((aA aN hD).f1) _ _ ((aA aN hD).f2) lJ _ (pC (Kd.aX S6.1 DL)) S1.1 (pC (Kd.aX K6.1 DL)) K5.1 A25.out) ?_
           rintro w' ⟨nd, rfl⟩
           refine nK hK (uB3 hJ (uB2 a6 (uBx HB nQ (uBx HB nR (uAx HB nS))))).1 fun hHeld => ?_
           clear hK K
           refine pU2 34 35 ?_
           refine dN ?_
           try go_wp2
           go_meet
           case rel => exact ⟨_, (!lJ), dM, H', ⟨by have := HJ1.out; have := HK2.out; first | omega | exact Nat.le_refl _⟩, ⟨rB a6.1⟩, ⟨rB hJ.1⟩, ⟨DL⟩⟩
          ·have H' := am H
           repeat clear H
           try go_wp2
           obtain ⟨w28, eW_⟩ := eW3 Uv NR (.string ((aA aN hD).f0)) (.slice IY ((aA aN hD).f1).length JE) (.slice IZ ((aA aN hD).f2).length JF)
           rw [← eW_]
           replace a6 := uF3 eW_ a6 mI
           replace hJ := uP3 eW_ hJ
           replace HB := uC3 eW_ HB TC
           clear eW_
           replace a6 := BD a6
           replace hJ := BD hJ
           replace HB := am (aV HB.1)
           obtain ⟨xS, wK, wL, xB, xI, F4, nQ, nR, nS, qU, qV, qW, qO, wX, tW, BO, Q6, JT⟩ := qJ cU HB (ji19)
           obtain rfl : pG = xS := (by injection F4)
           refine sT [] 36 (uB3 hJ (uB2 a6 (uBx HB nQ (uBx HB nR (uAx HB nS))))) (fun hHeld => ?_)
           refine eO aK.tab7 aK.II (fun HT_ HW_ => ?_)
           generalize w28.drew = w29 at a6 hJ HB qO tW qU qV qW hHeld ⊢
           refine pU1 0 ?_
           refine tK8 1 (some 29) ?_
           refine oN 2 (some 30) fun K hK => ?_
           refine gQ Try.func70 (cZ.calls k2 ((aA aN hD).f0) true _ Kn.out) ?_
           rintro w' ⟨nd, rfl⟩
           refine nK hK (uB3 hJ (uB2 a6 (uBx HB nQ (uBx HB nR (uAx HB nS))))).1 fun hHeld => ?_
           clear hK K
           refine pU8 3 4 5 6 7 8 10 11 ?_
           refine pU1 15 ?_
           refine tK8 9 (some 37) ?_
           refine pU2 12 13 ?_
           refine tK8 14 (some 42) ?_
           refine tK8 16 (some 44) ?_
           refine pU6 17 18 19 20 21 23 ?_
           refine tK8 22 (some 50) ?_
           refine tK8 24 (some 52) ?_
           refine oN 25 (some 53) fun K hK => ?_
           refine gQ Try.func71 (dA.calls k2 _ _ ((aA aN hD).f2) _ _ bF false _ (pC (Kd.aX K6.1 DL)) K5.1 (pC (Kd.aX dY.1 DL)) dX.1 Gs.out) ?_
           rintro w' ⟨nd, rfl⟩
           refine nK hK (uB3 hJ (uB2 a6 (uBx HB nQ (uBx HB nR (uAx HB nS))))).1 fun hHeld => ?_
           clear hK K
           refine pU3 26 27 28 ?_
           refine pV6 29 30 31 32 33 34 ?_
           refine pU1 35 ?_
           refine dN ?_
           try go_wp2
           go_meet
           case rel => exact ⟨_, (true), dM, H', ⟨by have := HJ1.out; have := HK2.out; first | omega | exact Nat.le_refl _⟩, ⟨rB a6.1⟩, ⟨rB hJ.1⟩, ⟨DL⟩⟩
         ·have H' := am H
          repeat clear H
          try go_wp2
          obtain ⟨ue, eW_⟩ := eW3 Uv NR (.string ((aA aN hD).f0)) (.slice IY ((aA aN hD).f1).length JE) (.slice IZ ((aA aN hD).f2).length JF)
          rw [← eW_]
          replace a6 := uF3 eW_ a6 mI
          replace hJ := uP3 eW_ hJ
          replace HB := uC3 eW_ HB TC
          clear eW_
          replace a6 := BD a6
          replace hJ := BD hJ
          replace HB := am (aV HB.1)
          obtain ⟨xS, wK, wL, xB, xI, F4, nQ, nR, nS, qU, qV, qW, qO, wX, tW, BO, Q6, JT⟩ := qJ cU HB (ji19)
          obtain rfl : pG = xS := (by injection F4)
          refine sT [] 36 (uB3 hJ (uB2 a6 (uBx HB nQ (uBx HB nR (uAx HB nS))))) (fun hHeld => ?_)
          refine eO aK.tab7 aK.II (fun HT_ HW_ => ?_)
          generalize ue.drew = vz at a6 hJ HB qO tW qU qV qW hHeld ⊢
          refine pU1 0 ?_
          refine tK8 1 (some 29) ?_
          refine oN 2 (some 30) fun K hK => ?_
          refine gQ Try.func70 (cZ.calls k2 ((aA aN hD).f0) true _ Kn.out) ?_
          rintro w' ⟨nd, rfl⟩
          refine nK hK (uB3 hJ (uB2 a6 (uBx HB nQ (uBx HB nR (uAx HB nS))))).1 fun hHeld => ?_
          clear hK K
          refine pU8 3 4 5 6 7 8 10 11 ?_
          refine pU1 15 ?_
          refine tK8 9 (some 37) ?_
          refine pU2 12 13 ?_
          refine tK8 14 (some 42) ?_
          refine tK8 16 (some 44) ?_
          refine pU4 17 18 19 20 ?_
          refine pV6 21 22 23 24 25 26 ?_
          refine pU2 27 28 ?_
          refine pV6 29 30 31 32 33 34 ?_
          refine pU1 35 ?_
          refine dN ?_
          try go_wp2
          go_meet
          case rel => exact ⟨_, (true), dM, H', ⟨by have := HJ1.out; have := HK2.out; first | omega | exact Nat.le_refl _⟩, ⟨rB a6.1⟩, ⟨rB hJ.1⟩, ⟨DL⟩⟩
        ·rw [if_neg Ei] at H
         have CS : decide (0 < hD) = false := decide_eq_false Ei
         clear Ei
         (first | rw [CS] | (simp only [q8, uS]; rw [CS]) | skip)
         obtain ⟨yT, un, H⟩ := bd H
         refine tC H ?_ ?_ <;> clear H <;> intro c33 H <;> subst c33
         ·obtain ⟨xJ, Mx, H⟩ := bd H
          have H' := am H
          repeat clear H
          try go_wp2
          obtain ⟨w35, eW_⟩ := eW3 Uv NR (.string ((aA aN hD).f0)) (.slice IY ((aA aN hD).f1).length JE) (.slice IZ ((aA aN hD).f2).length JF)
          rw [← eW_]
          replace a6 := uF3 eW_ a6 mI
          replace hJ := uP3 eW_ hJ
          replace HB := uC3 eW_ HB TC
          clear eW_
          replace a6 := BD a6
          replace hJ := BD hJ
          replace HB := am (aV HB.1)
          refine sT [] 36 (uB3 hJ (uA2 a6)) (fun hHeld => ?_)
          refine eO aK.tab7 aK.II (fun HT_ HW_ => ?_)
          generalize w35.drew = uf at a6 hJ HB hHeld ⊢
          refine pU1 0 ?_
          refine tK5 1 (some 29) ?_
          refine oN 2 (some 30) fun K hK => ?_
          refine gQ Try.func70 (cZ.calls k2 ((aA aN hD).f0) true _ Kn.out) ?_
          rintro w' ⟨nd, rfl⟩
          refine nK hK (uB3 hJ (uA2 a6)).1 fun hHeld => ?_
          clear hK K
          refine pU5 3 4 5 6 7 ?_
          refine pV8 8 9 10 11 12 13 14 15 ?_
          refine pV2 16 17 ?_
          refine pU5 18 19 20 21 23 ?_
          refine tK5 22 (some 50) ?_
          refine tK5 24 (some 52) ?_
          refine oN 25 (some 53) fun K hK => ?_
          refine gQ Try.func71 (dA.calls k2 _ _ ((aA aN hD).f2) _ _ bF true _ (pC (Kd.aX K6.1 DL)) K5.1 (pC (Kd.aX dY.1 DL)) dX.1 un.out) ?_
          rintro w' ⟨nd, rfl⟩
          refine nK hK (uB3 hJ (uA2 a6)).1 fun hHeld => ?_
          clear hK K
          refine pU5 26 27 28 29 31 ?_
          refine tK5 30 (some 58) ?_
          refine tK5 32 (some 60) ?_
          refine oN 33 (some 61) fun K hK => ?_
          refine gQ Try.func71 (dA.calls k2 _ _ ((aA aN hD).f1) _ _ ((aA aN hD).f2) xJ _ (pC (Kd.aX S6.1 DL)) S1.1 (pC (Kd.aX K6.1 DL)) K5.1 Mx.out) ?_
          rintro w' ⟨nd, rfl⟩
          refine nK hK (uB3 hJ (uA2 a6)).1 fun hHeld => ?_
          clear hK K
          refine pU2 34 35 ?_
          refine dN ?_
          try go_wp2
          go_meet
          case rel => exact ⟨_, (!xJ), dM, H', ⟨by have := HJ1.out; have := HK2.out; first | omega | exact Nat.le_refl _⟩, ⟨rB a6.1⟩, ⟨rB hJ.1⟩, ⟨DL⟩⟩
         ·have H' := am H
          repeat clear H
          try go_wp2
          obtain ⟨ug, eW_⟩ := eW3 Uv NR (.string ((aA aN hD).f0)) (.slice IY ((aA aN hD).f1).length JE) (.slice IZ ((aA aN hD).f2).length JF)
          rw [← eW_]
          replace a6 := uF3 eW_ a6 mI
          replace hJ := uP3 eW_ hJ
          replace HB := uC3 eW_ HB TC
          clear eW_
          replace a6 := BD a6
          replace hJ := BD hJ
          replace HB := am (aV HB.1)
          refine sT [] 36 (uB3 hJ (uA2 a6)) (fun hHeld => ?_)
          refine eO aK.tab7 aK.II (fun HT_ HW_ => ?_)
          generalize ug.drew = uh at a6 hJ HB hHeld ⊢
          refine pU1 0 ?_
          refine tK5 1 (some 29) ?_
          refine oN 2 (some 30) fun K hK => ?_
          refine gQ Try.func70 (cZ.calls k2 ((aA aN hD).f0) true _ Kn.out) ?_
          rintro w' ⟨nd, rfl⟩
          refine nK hK (uB3 hJ (uA2 a6)).1 fun hHeld => ?_
          clear hK K
          refine pU5 3 4 5 6 7 ?_
          refine pV8 8 9 10 11 12 13 14 15 ?_
          refine pV2 16 17 ?_
          refine pU5 18 19 20 21 23 ?_
          refine tK5 22 (some 50) ?_
          refine tK5 24 (some 52) ?_
          refine oN 25 (some 53) fun K hK => ?_
          refine gQ Try.func71 (dA.calls k2 _ _ ((aA aN hD).f2) _ _ bF false _ (pC (Kd.aX K6.1 DL)) K5.1 (pC (Kd.aX dY.1 DL)) dX.1 un.out) ?_
          rintro w' ⟨nd, rfl⟩
          refine nK hK (uB3 hJ (uA2 a6)).1 fun hHeld => ?_
          clear hK K
          refine pU3 26 27 28 ?_
          refine pV6 29 30 31 32 33 34 ?_
          refine pU1 35 ?_
          refine dN ?_
          try go_wp2
          go_meet
          case rel => exact ⟨_, (true), dM, H', ⟨by have := HJ1.out; have := HK2.out; first | omega | exact Nat.le_refl _⟩, ⟨rB a6.1⟩, ⟨rB hJ.1⟩, ⟨DL⟩⟩
       ·have H' := am H
        repeat clear H
        try go_wp2
        obtain ⟨w39, eW_⟩ := eW3 Uv NR (.string ((aA aN hD).f0)) (.slice IY ((aA aN hD).f1).length JE) (.slice IZ ((aA aN hD).f2).length JF)
        rw [← eW_]
        replace a6 := uF3 eW_ a6 mI
        replace hJ := uP3 eW_ hJ
        replace HB := uC3 eW_ HB TC
        clear eW_
        replace a6 := BD a6
        replace hJ := BD hJ
        replace HB := am (aV HB.1)
        refine sT [] 36 (uA3 hJ) (fun hHeld => ?_)
        refine eO aK.tab7 aK.II (fun HT_ HW_ => ?_)
        generalize w39.drew = w40 at a6 hJ HB hHeld ⊢
        refine pU1 0 ?_
        refine tK3 1 (some 29) ?_
        refine oN 2 (some 30) fun K hK => ?_
        refine gQ Try.func70 (cZ.calls k2 ((aA aN hD).f0) false _ Kn.out) ?_
        rintro w' ⟨nd, rfl⟩
        refine nK hK (uA3 hJ).1 fun hHeld => ?_
        clear hK K
        refine pU2 3 4 ?_
        refine pV8 5 6 7 8 9 10 11 12 ?_
        refine pV6 13 14 15 16 17 18 ?_
        refine pU2 19 20 ?_
        refine pV6 21 22 23 24 25 26 ?_
        refine pU2 27 28 ?_
        refine pV6 29 30 31 32 33 34 ?_
        refine pU1 35 ?_
        refine dN ?_
        try go_wp2
        go_meet
        case rel => exact ⟨_, (true), dM, H', ⟨by have := HJ1.out; have := HK2.out; first | omega | exact Nat.le_refl _⟩, ⟨rB a6.1⟩, ⟨rB hJ.1⟩, ⟨DL⟩⟩
      case rest =>
       clear jb
       obtain ⟨kq, Gl, rfl, HA, Vt, a6, hJ, HB⟩ := hcut
       cases kq with
       | zero => exact absurd HA.out (by simp [aK.j2])
       | succ kj10 =>
        have H := HA.out
        clear HA
        simp only [aK.j2] at H
        refine tC H ?_ ?_ <;> clear H <;> intro c41 H <;> subst c41
        ·obtain rfl := Option.some.inj H
         repeat clear H
         go_wp2
         go_ret
         exact ⟨eR, DL⟩
        ·have H' := am H
         repeat clear H
         go_wp2
         go_loopg [5] kj10 (fun kq v5 w' => ∃ (Db : Int), v5 = .int .i64 Db ∧ aC (aK.l1 kq hD Db bF aN ((aA aN hD).f0) ((aA aN hD).f1) ((aA aN hD).f2) = some r) ∧ aC (kq ≤ kj10) ∧ aC (w'.heap[aT]? = some (.cells #[(.slice eU bF.length eY), (.slice (some pG) aN.length eQ)] 31 (0, 0))) ∧ aC (w'.heap[NR]? = some (.cells #[.string ((aA aN hD).f0), (.slice IY ((aA aN hD).f1).length JE), (.slice IZ ((aA aN hD).f2).length JF)] 56 (0, 0))) ∧ aC (Below w.heap.size w w'))
         case atStart => exact ⟨(0), dM, H', ⟨Nat.le_refl _⟩, ⟨rB a6.1⟩, ⟨rB hJ.1⟩, ⟨DL⟩⟩
         case round =>
          clear H'
          try clear c41
          obtain ⟨Db, rfl, HA, HK4, a6, hJ, HB⟩ := hrel
          cases gk with
          | zero => exact absurd HA.out (by simp [aK.l1])
          | succ k4 =>
           have H := HA.out
           clear HA
           simp only [aK.l1] at H
           refine ic H ?_ ?_ <;> clear H <;> intro Qu H
           ·obtain ⟨aLL, H⟩ := cN H
            obtain ⟨aLM, H⟩ := cN H
            obtain ⟨iI, A45, H⟩ := bd H
            refine tC H ?_ ?_ <;> clear H <;> intro cp H <;> subst cp
            ·obtain rfl := Option.some.inj H
             repeat clear H
             try go_wp2
             replace a6 := BD a6
             replace hJ := BD hJ
             replace HB := am (aV HB.1)
             obtain ⟨kL, ft, lq, fu, lr, Rd, O7, O8, O9, HU, YY, YZ, NF, X9, XE, Vm, sa, sk⟩ := qJ cU HB Db
             obtain rfl : pG = kL := (by injection Rd)
             refine sT [] 9 (uB3 hJ (uB2 a6 (uBx HB O7 (uBx HB O8 (uAx HB O9))))) (fun hHeld => ?_)
             refine eO aK.fe aK.Qf (fun HT_ HW_ => ?_)
             generalize wr.drew = w47 at a6 hJ HB NF XE HU YY YZ hHeld ⊢
             refine pU3 0 2 4 ?_
             refine tK8 1 (some 70) ?_
             refine tK8 3 (some 72) ?_
             refine pU2 5 6 ?_
             refine tK8 7 (some 76) ?_
             refine oN 8 (some 77) fun K hK => ?_
             refine gQ Try.func72 (fF.calls k4 _ _ ((aA aN hD).f1) _ _ ((aA aN Db).f1) true _ (pB S6) S1.1 (pB NF) X9.1 A45.out) ?_
             rintro w' ⟨nd, rfl⟩
             refine nK hK (uB3 hJ (uB2 a6 (uBx HB O7 (uBx HB O8 (uAx HB O9))))).1 fun hHeld => ?_
             clear hK K
             refine dN ?_
             try go_wp2
             go_ret
             exact ⟨eR, DL⟩
            ·have H' := am H
             repeat clear H
             try go_wp2
             replace a6 := BD a6
             replace hJ := BD hJ
             replace HB := am (aV HB.1)
             obtain ⟨kL, ft, lq, fu, lr, Rd, O7, O8, O9, HU, YY, YZ, NF, X9, XE, Vm, sa, sk⟩ := qJ cU HB Db
             obtain rfl : pG = kL := (by injection Rd)
             refine sT [] 9 (uB3 hJ (uB2 a6 (uBx HB O7 (uBx HB O8 (uAx HB O9))))) (fun hHeld => ?_)
             refine eO aK.fe aK.Qf (fun HT_ HW_ => ?_)
             generalize wr.drew = w48 at a6 hJ HB NF XE HU YY YZ hHeld ⊢
             refine pU3 0 2 4 ?_
             refine tK8 1 (some 70) ?_
             refine tK8 3 (some 72) ?_
             refine pU2 5 6 ?_
             refine tK8 7 (some 76) ?_
             refine oN 8 (some 77) fun K hK => ?_
             refine gQ Try.func72 (fF.calls k4 _ _ ((aA aN hD).f1) _ _ ((aA aN Db).f1) false _ (pB S6) S1.1 (pB NF) X9.1 A45.out) ?_
             rintro w' ⟨nd, rfl⟩
             refine nK hK (uB3 hJ (uB2 a6 (uBx HB O7 (uBx HB O8 (uAx HB O9))))).1 fun hHeld => ?_
             clear hK K
             refine dN ?_
             try go_wp2
             go_roundg k4
             case measure => have := HJ1.out; have := HK2.out; have := Vt.out; have := HK4.out; omega
             case rel => exact ⟨(wrap64 (Db + 1)), dM, H', ⟨by have := HJ1.out; have := HK2.out; have := Vt.out; have := HK4.out; omega⟩, ⟨rB a6.1⟩, ⟨rB hJ.1⟩, ⟨DL⟩⟩
           ·have H' := am H
            repeat clear H
            go_wp2
            go_roundg k4
            case measure => have := HJ1.out; have := HK2.out; have := Vt.out; have := HK4.out; omega
            case rel => exact ⟨(wrap64 (hD + 1)), dM, H', ⟨by have := HJ1.out; have := HK2.out; have := Vt.out; have := HK4.out; omega⟩, ⟨rB a6.1⟩, ⟨DL⟩⟩
     ·obtain rfl := Option.some.inj H
      repeat clear H
      have Z49 := cz2 a6
      go_wp2
      go_ret
      exact ⟨eR, eE⟩
end Go.Proofs.Ytaofjgnhapnndaa.Q
namespace Go.Proofs.Ytaofjgnhapnndaa.Q
open Go.RowKit Go.Proofs.YtaofjgnhapnndaaW.PrintWords Go.Proofs.YtaofjgnhapnndaaW.PrintLast Go.Proofs.YtaofjgnhapnndaaW.PrintMore
set_option linter.unusedVariables false
set_option linter.unusedSimpArgs false
def gV.l0 : Nat → ByteArray → Int → List ByteArray → List (S56) → Option (Int)
 | 0, _, _, _, _ => none
 | k + 1, c, a, d, b => if a < (b.length : Int) then (if 0 ≤ a then (if ((aA b a).f0).toList = c.toList then (some a) else (gV.l0 k c (wrap64 (a + 1)) d b)) else (none)) else (some (-1))
def gV.f (k : Nat) (bF : List ByteArray) (aN : List (S56)) (a1 : ByteArray) : Option (Int) := gV.l0 k a1 0 bF aN
theorem gV.calls (k : Nat) (eU : Option Addr) (eY : Nat) (bF : List ByteArray) (fG : Option Addr) (eQ : Nat) (aN : List (S56)) (a1 : ByteArray) (r : Int) (w : World) (iG : Kd.C Kd.string w eU bF.length bF) (iD : bF.length ≤ eY) (iC : Kd.C k56 w fG aN.length aN) (iE : aN.length ≤ eQ) (h : gV.f k bF aN a1 = some r) :
  Calls Try.prog 82 #[.agg #[.slice eU bF.length eY, .slice fG aN.length eQ], .string a1] w fun e w' => e = .returned (.int .i64 r) ∧ Below w.heap.size w w' := by
 have hu31 := Try.underlying31
 obtain ⟨dY, dX⟩ := mZ2 iG iD
 obtain ⟨cU, f4⟩ := mZ2 iC iE
 clear iG iD iC iE
 have HB := am (Below.refl w.heap.size w)
 unfold gV.f at h
 have H := h
 clear h
 have H' := am H
 repeat clear H
 go_enter Try.func82, Try.ntmps82
 go_wp2_with (first | ((with_reducible refine gD 2 ?_); refine bX 2 #[.slice eU bF.length eY, .slice fG aN.length eQ] 31 ?_; intro aT hg w3 hbox hb; have a6 := am hbox; have g5 := am (oS : w.heap.size ≤ aT); have iJ := g5; replace HB := bS eG hb; clear hb hbox hg))
 go_loopg [5] k (fun kq v5 w' => ∃ (dW : Int), v5 = .int .i64 dW ∧ aC (gV.l0 kq a1 dW bF aN = some r) ∧ aC (kq ≤ k) ∧ aC (w'.heap[aT]? = some (.cells #[(.slice eU bF.length eY), (.slice fG aN.length eQ)] 31 (0, 0))) ∧ aC (Below w.heap.size w w'))
 case atStart => exact ⟨(0), dM, H', ⟨Nat.le_refl _⟩, ⟨rB a6.1⟩, ⟨eE⟩⟩
 clear H'
 obtain ⟨dW, rfl, HA, HK1, a6, HB⟩ := hrel
 cases gk with
 | zero => exact absurd HA.out (by simp [gV.l0])
 | succ k1 =>
  have H := HA.out
  clear HA
  simp only [gV.l0] at H
  refine ic H ?_ ?_ <;> clear H <;> intro yF H
  ·obtain ⟨IP, H⟩ := cN H
   refine iq H ?_ ?_ <;> clear H <;> intro c6 RQ Bi H
   ·obtain rfl := Option.some.inj H
    repeat clear H
    have Z7 := cz2 a6
    obtain ⟨pF, vA, vG, vB, vH, uK, oR, qS, qT, rP, rL, vT, vS, F7, FB⟩ := aT56 cU HB dW
    cases uK
    go_wp2
    go_ret
    exact ⟨eR, eE⟩
   ·have H' := am H
    repeat clear H
    have Z8 := cz2 a6
    obtain ⟨pF, vA, vG, vB, vH, uK, oR, qS, qT, rP, rL, vT, vS, F7, FB⟩ := aT56 cU HB dW
    cases uK
    go_wp2
    go_roundg k1
    case measure => have := HK1.out; omega
    case rel => exact ⟨(wrap64 (dW + 1)), dM, H', ⟨by have := HK1.out; omega⟩, ⟨rB a6.1⟩, ⟨eE⟩⟩
  ·obtain rfl := Option.some.inj H
   repeat clear H
   have Z9 := cz2 a6
   go_wp2
   go_ret
   exact ⟨eR, eE⟩
def iK.f (l0 : List ByteArray) : Option (List ByteArray) := (some (([] : List ByteArray) : List ByteArray)).bind fun a => (if a.length + l0.length < 8796093022208 then (some (a ++ l0)) else (none))
theorem iK.calls (A0 : Option Addr) (c0 : Nat) (l0 : List ByteArray) (r : List ByteArray) (w : World) (sJ : Kd.C Kd.string w A0 l0.length l0) (yR : l0.length ≤ c0) (h : iK.f l0 = some r) :
  Calls Try.prog 93 #[.slice A0 l0.length c0] w fun e w' => ∃ v0_ : Value, e = .returned (v0_) ∧ Kd.R Kd.string 9 w' w.heap.size (fun _ => True) v0_ r ∧ Below w.heap.size w w' := by
 obtain ⟨tO, QP⟩ := mZ2 sJ yR
 clear sJ yR
 have HB := am (Below.refl w.heap.size w)
 unfold iK.f at h
 have H := h
 clear h
 obtain ⟨Af, hy101⟩ : ∃ y_ : List ByteArray, y_ = (([] : List ByteArray)) := ⟨_, rfl⟩
 replace H : (if Af.length + l0.length < 8796093022208 then (some (Af ++ l0)) else (none)) = some r := by first | (rw [hy101]; with_reducible exact H) | (have H2_ := (Option.bind_some _ _).symm.trans H; rw [hy101]; with_reducible exact H2_) | (have H2_ := (Option.bind_some _ _).symm.trans H; with_reducible exact H2_) | with_reducible exact H | (rw [hy101]; exact H) | exact H
 have IG := am hy101
 clear hy101
 obtain ⟨aCP, H⟩ := cL H
 obtain ⟨aX8, Pa⟩ := yv (Af ++ l0); first | replace H := bW Pa H | rw [← Pa.1] at H
 obtain rfl := Option.some.inj H
 repeat clear H
 go_enter Try.func93, Try.ntmps93
 go_wp2_with (first | ((with_reducible refine jW (N := 3) rfl ?_); refine lS 9 3 IG ?_; intro Aa w3 ho4 hb; have kZ := am (Kd.d9 ho4 (aG eG)); replace HB := bS eG hb; clear hb ho4) | ((with_reducible refine o7 (b := .append) (xs := #[.tmp 3, .tmp 4]) rfl ?_); at_builtin; refine Kd.LJ Kd.string (w0 := w) w.heap.size rfl (.tmp 3) (.tmp 4) 23 9 (.string ⟨#[]⟩) 16 rfl Try.underlying23 rY rfl (by decide) (by omega) Aa Af l0 _ _ _ (fun _ => True) (fun _ => False) rfl rfl ?aO ?aR (fun _ _ h => h) (fun _ h => h.elim) ?aF ?aB ?aS ?aL ?_; (case aR => repeat (first | exact (Kd.aX tO.1 HB.1) | (with_reducible refine Kd.mO ?_ _) | (with_reducible refine Kd.mP ?_ _) | (with_reducible refine Kd.oD ?_))); (case aB => exact eG); (case aF => exact (fun _ _ => trivial)); (case aO => exact OX); (case aS => exact (aG eG)); (case aL => have := aCP.out; omega); intro LE w5 ho hb hg hat; rw [← Pa.out] at ho; replace HB := am hb; have eP := am ho; clear kZ; clear ho hb hg hat))
 go_ret
 exact ⟨_, eR, rR eP.1, eG⟩
def dE.l0 : Nat → Int → List ByteArray → List (S56) → List ByteArray → List (S56) → Option (List ByteArray × (List (S56)))
 | 0, _, _, _, _, _ => none
 | k + 1, a, e, b, d, c => if a < (b.length : Int) then (if 0 ≤ a then ((iK.f ((aA b a).f1)).bind fun g => ((iK.f ((aA b a).f2)).bind fun h => (if c.length < 2199023255552 then (dE.l0 k (wrap64 (a + 1)) e b d (c ++ [(⟨(aA b a).f0, g, h⟩ : S56)])) else (none)))) else (none)) else (some (d, c))
def dE.f (k : Nat) (bF : List ByteArray) (aN : List (S56)) : Option (List ByteArray × (List (S56))) := (iK.f bF).bind fun a => (dE.l0 k 0 bF aN a ([] : List (S56)))
def dE.T5 : Bool × List (List Nat × List Nat) := (true, [([], []), ([0], [0]), ([], []), ([2], [2]), ([], []), ([3, 4], [3, 4]), ([5], [5]), ([6], [6]), ([], []), ([8], [8]), ([], []), ([9, 10], [9, 10]), ([11], [11]), ([12], [12]), ([13], [13]), ([], []), ([15], [15]), ([], []), ([16, 17], [16, 17]), ([18], [18]), ([19], [19]), ([20, 14], [20]), ([7, 14, 21], [7, 14, 21]), ([22], [22]), ([1, 23, 21], [1, 23]), ([0, 1, 2, 3, 4, 5, 6, 7, 8, 9, 10, 11, 12, 13, 14, 15, 16, 17, 18, 19, 20, 21, 22, 23, 24], []), ([25, 24, 24, 0, 1, 2, 3, 4, 5, 6, 7, 8, 9, 10, 11, 12, 13, 14, 15, 16, 17, 18, 19, 20, 21, 22, 23, 24], [24, 25])])
def dE.B5 : List Nat := [0, 1, 0, 4, 0, 28, 60, 124, 0, 256, 0, 1792, 3840, 7936, 16128, 0, 32768, 0, 229376, 491520, 1015808, 2096896, 4194300, 8388604, 16777215, 33554431, 67108863]
theorem dE.tab5 : rtab .any (opsOf Try.f89 5) = dE.T5 := by kernel_rfl
theorem dE.Qh : kP dE.T5.2 dE.B5 = true := by kernel_rfl
theorem dE.calls (k : Nat) (eU : Option Addr) (eY : Nat) (bF : List ByteArray) (fG : Option Addr) (eQ : Nat) (aN : List (S56)) (r1 : List ByteArray) (r2 : List (S56)) (w : World) (iG : Kd.C Kd.string w eU bF.length bF) (iD : bF.length ≤ eY) (iC : Kd.C k56 w fG aN.length aN) (iE : aN.length ≤ eQ) (h : dE.f k bF aN = some (r1, r2)) :
  Calls Try.prog 89 #[.agg #[.slice eU bF.length eY, .slice fG aN.length eQ]] w fun e w' => ∃ v0_ v1_ : Value, e = .returned (.agg #[v0_, v1_]) ∧ Kd.R Kd.string 9 w' w.heap.size (fun _ => True) v0_ r1 ∧ Kd.S k56 56 w' w.heap.size (fun k_ => some k_ ≠ (v0_ : Value).ownBlock) v1_ r2 ∧ Below w.heap.size w w' := by
 have hu31 := Try.underlying31
 have hu56 := Try.underlying56
 obtain ⟨dY, dX⟩ := mZ2 iG iD
 obtain ⟨cU, f4⟩ := mZ2 iC iE
 clear iG iD iC iE
 have HB := am (Below.refl w.heap.size w)
 unfold dE.f at h
 have H := h
 clear h
 obtain ⟨eF, A2, H⟩ := bd H
 have H' := am H
 repeat clear H
 go_enter Try.func89, Try.ntmps89
 go_wp2_with (first | ((with_reducible refine gD 1 ?_); refine bX 1 #[.slice eU bF.length eY, .slice fG aN.length eQ] 31 ?_; intro aT hg w3 hbox hb; have a6 := am hbox; have g5 := am (oS : w.heap.size ≤ aT); have iJ := g5; replace HB := bS eG hb; clear hb hbox hg) | ((with_reducible refine gD 2 ?_); refine bX 2 #[.slice none 0 0, .slice none 0 0] 31 ?_; intro aZ hg w4 hbox hb; have aH := am hbox; have m4 := am (I1 : w.heap.size ≤ aZ); have nX := m4; replace HB := bS eE hb; have cO := nL aW hg; have cV := nG aW hg; replace a6 := bB aW hb; clear hb hbox hg; have Z5 := nZ1 cO cV; have Z6 := cz2 a6) | ((with_reducible refine gC 93 ?_); refine cE (some 7) Try.func93 (iK.calls _ _ bF eF _ (pB dY) dX.1 A2.out) ?_; rintro e w7 ⟨FD, rfl, f3, hb⟩; refine ⟨_, rfl, ?_⟩; have mY := am (Kd.d9 f3 (aG l6)); replace a6 := bB aW hb; replace aH := bB cB hb; replace HB := bS l6 hb; clear hb f3; obtain ⟨T8, TO, eo8⟩ := Kd.bP mY.1; subst eo8) | ((with_reducible refine gD 3 ?_); refine bX 3 #[.slice none 0 0, .slice none 0 0] 31 ?_; intro U1 hg w9 hbox hb; replace mY := RB LW hb; have jV := am hbox; have Nz := am (ZN : w.heap.size ≤ U1); have Nw := Nz; replace HB := bS l6 hb; have rD := nL aW hg; have xQ := nG aW hg; replace a6 := bB aW hb; have sY := nL cB hg; have z8 := nG cB hg; replace aH := bB cB hb; clear hb hbox hg; have Z10 := nZ2 xQ rD z8 sY; have bv := cz2 jV))
 go_loopg [4] k (fun kq v4 w' => ∃ (mU : Int) (oU : List (S56)) (nU : Value), v4 = .int .i64 mU ∧ aC (dE.l0 kq mU bF aN eF oU = some (r1, r2)) ∧ aC (kq ≤ k) ∧ aC (Kd.R Kd.string 9 w' w.heap.size (fun _ => True) (.slice T8 eF.length TO) eF) ∧ aC (Kd.S k56 56 w' w.heap.size (fun k_ => some k_ ≠ ((.slice T8 eF.length TO) : Value).ownBlock) nU oU) ∧ aC (w'.heap[aT]? = some (.cells #[(.slice eU bF.length eY), (.slice fG aN.length eQ)] 31 (0, 0))) ∧ aC (w'.heap[aZ]? = some (.cells #[(.slice none 0 0), (.slice none 0 0)] 31 (0, 0))) ∧ aC (w'.heap[U1]? = some (.cells #[(.slice T8 eF.length TO), nU] 31 (0, 0))) ∧ aC (Below w.heap.size w w'))
 case atStart => exact ⟨(0), (([] : List (S56))), (.slice none 0 0), dM, H', ⟨Nat.le_refl _⟩, ⟨mR mY jV⟩, ⟨eN⟩, ⟨qF a6 rD⟩, ⟨qF aH sY⟩, ⟨qP jV⟩, ⟨Q7⟩⟩
 clear H'
 try clear bv
 try clear Z6
 obtain ⟨mU, oU, nU, rfl, HA, HK1, k3, fL, a6, aH, jV, HB⟩ := hrel
 cases gk with
 | zero => exact absurd HA.out (by simp [dE.l0])
 | succ k1 =>
  have H := HA.out
  clear HA
  simp only [dE.l0] at H
  refine ic H ?_ ?_ <;> clear H <;> intro WD H
  ·obtain ⟨Bb, H⟩ := cN H
   obtain ⟨yT, Up, H⟩ := bd H
   obtain ⟨E7, Kn, H⟩ := bd H
   obtain ⟨xr, H⟩ := cL H
   obtain ⟨a5N, Pd⟩ := yv (oU ++ [(⟨(aA aN mU).f0, yT, E7⟩ : S56)]); first | replace H := bW Pd H | rw [← Pd.1] at H
   have H' := am H
   repeat clear H
   have Z18 := nZ2 cO cV rD xQ
   have Z20 := cz2 a6
   try go_wp2
   replace k3 := RD k3
   replace fL := SD fL
   replace a6 := BD a6
   replace aH := BD aH
   replace jV := BD jV
   replace HB := am (aV HB.1)
   obtain ⟨CP, GM, H0, GN, H3, MI, kM, kN, kO, uR, pO, pP, qQ, y8, tX, EB, Fz, Gb⟩ := qJ cU HB mU
   cases MI
   obtain ⟨Il, aBP, aDA, aBQ, aDB, nl, KL, KM, KO, SP, Jt, Ju, Hi, Vk, Vw, a5U, aFZ, aGE⟩ := qJ cU HB mU
   obtain rfl : CP = Il := (by injection nl)
   obtain ⟨ea_, ec_⟩ := eZ2 pO Jt
   subst ea_
   subst ec_
   obtain ⟨ea_, ec_⟩ := eZ2 pP Ju
   subst ea_
   subst ec_
   obtain ⟨BK, Dg, Ee, Dh, Ef, Es, KP, KQ, KR, KU, HV, HX, S8, XA, BP, ED, Tb, Tj⟩ := qJ cU HB mU
   obtain rfl : CP = BK := (by injection Es)
   obtain ⟨ea_, ec_⟩ := eZ2 pO HV
   subst ea_
   subst ec_
   obtain ⟨ea_, ec_⟩ := eZ2 pP HX
   subst ea_
   subst ec_
   refine sT [26] 27 (uB2 jV (uB2 a6 (uBx HB kM (uBx HB kN (uBx HB kO (uBx HB KL (uBx HB KM (uBx HB KO (uBx HB KP (uBx HB KQ (uAx HB KR))))))))))) (fun hHeld => ?_)
   refine eO dE.tab5 dE.Qh (fun HT_ HW_ => ?_)
   generalize wr.drew = Uw at k3 fL a6 aH jV HB qQ tX Hi Vw S8 BP uR pO pP SP Jt Ju KU HV HX hHeld ⊢
   refine pU7 0 2 4 8 10 15 17 ?_
   refine tK13 1 (some 17) ?_
   refine tK13 3 (some 19) ?_
   refine pU2 5 6 ?_
   refine tK13 7 (some 23) ?_
   refine tK13 9 (some 25) ?_
   refine pU2 11 12 ?_
   refine tK13 13 (some 29) ?_
   refine tK13 16 (some 32) ?_
   refine pU2 18 19 ?_
   refine tK13 20 (some 36) ?_
   refine oN 14 (some 30) fun K hK => ?_
   refine gE Try.func93 (iK.calls _ _ ((aA aN mU).f1) yT _ (pB Hi) Vk.1 Up.out) ?_
   rintro e Ux ⟨Tz, rfl, f3, hb⟩
   refine ⟨_, rfl, ?_⟩
   replace fL := am (Kd.AJ U7 (Kd.bZ f3) hb)
   have wE := am (Kd.d9 (Kd.fA f3 (Kd.R_lt G8)) (aG Q7))
   replace k3 := am (Kd.dS G8 (Kd.bZ f3) hb)
   replace a6 := bB aW hb
   replace aH := bB cB hb
   replace jV := bB OV hb
   replace HB := bS Q7 hb
   clear hb f3
   refine nK hK (uB2 jV (uB2 a6 (uBx HB kM (uBx HB kN (uBx HB kO (uBx HB KL (uBx HB KM (uBx HB KO (uBx HB KP (uBx HB KQ (uAx HB KR))))))))))).1 fun hHeld => ?_
   clear hK K
   refine oN 21 (some 37) fun K hK => ?_
   refine gE Try.func93 (iK.calls _ _ ((aA aN mU).f2) E7 _ (pB BP) ED.1 Kn.out) ?_
   rintro e VA ⟨Gk, rfl, f3, hb⟩
   refine ⟨_, rfl, ?_⟩
   replace fL := am (Kd.AJ U7 (Kd.bZ f3) hb)
   have vD := am (Kd.d9 (Kd.fA (Kd.fA f3 (Kd.R_lt G8)) (Kd.R_lt (rR wE.1))) (aG Q7))
   replace k3 := am (Kd.dS G8 (Kd.bZ f3) hb)
   replace wE := am (Kd.dS (rR wE.1) (Kd.bZ f3) hb)
   replace a6 := bB aW hb
   replace aH := bB cB hb
   replace jV := bB OV hb
   replace HB := bS Q7 hb
   clear hb f3
   obtain ⟨M7, uY, Br⟩ := Kd.bP vD.1
   (first | subst Br | (obtain ⟨f4_, f5_⟩ := sj Br; subst f4_; subst f5_))
   obtain ⟨FL, CW, Lo⟩ := Kd.bP wE.1
   (first | subst Lo | (obtain ⟨f4_, f5_⟩ := sj Lo; subst f4_; subst f5_))
   refine nK hK (uB2 jV (uB2 a6 (uBx HB kM (uBx HB kN (uBx HB kO (uBx HB KL (uBx HB KM (uBx HB KO (uBx HB KP (uBx HB KQ (uAx HB KR))))))))))).1 fun hHeld => ?_
   clear hK K
   refine pU1 22 ?_
   refine oN 23 (some 39) fun K hK => ?_
   refine yQ (w1 := ?_) (v := ?_) (by rfl) rfl ?_ ?_
   rotate_left 2
   ·go_simp
    constructor
    ·rfl
    ·rfl
   refine hK.out _ _ ⟨(bC (bM jV.1 _) 0).trans rfl, (bC (bM jV.1 _) 1).trans rfl, (bC (bM a6.1 _) 0).trans rfl, (bC (bM a6.1 _) 1).trans rfl, (World.cell?_alloc_lt _ _ _ (World.block_lt_of_cell? _ _ ((hX HB kM)))).trans ((hX HB kM)), (World.cell?_alloc_lt _ _ _ (World.block_lt_of_cell? _ _ ((hX HB kN)))).trans ((hX HB kN)), (World.cell?_alloc_lt _ _ _ (World.block_lt_of_cell? _ _ ((hX HB kO)))).trans ((hX HB kO)), (World.cell?_alloc_lt _ _ _ (World.block_lt_of_cell? _ _ ((hX HB KL)))).trans ((hX HB KL)), (World.cell?_alloc_lt _ _ _ (World.block_lt_of_cell? _ _ ((hX HB KM)))).trans ((hX HB KM)), (World.cell?_alloc_lt _ _ _ (World.block_lt_of_cell? _ _ ((hX HB KO)))).trans ((hX HB KO)), (World.cell?_alloc_lt _ _ _ (World.block_lt_of_cell? _ _ ((hX HB KP)))).trans ((hX HB KP)), (World.cell?_alloc_lt _ _ _ (World.block_lt_of_cell? _ _ ((hX HB KQ)))).trans ((hX HB KQ)), (World.cell?_alloc_lt _ _ _ (World.block_lt_of_cell? _ _ ((hX HB KR)))).trans ((hX HB KR))⟩ (fun hHeld => ?_)
   clear hK K
   refine nM ?_
   refine oN 24 (some 40) fun K hK => ?_
   refine Kd.zY k56 (w0 := w) w.heap.size (by rfl) (.tmp 17) (.tmp 39) 29 56 Ag0 64 rfl Try.underlying29 rC rfl (by decide) (by omega) nU oU (⟨(aA aN mU).f0, yT, E7⟩ : S56) [.string ((aA aN mU).f0), .slice FL yT.length CW, .slice M7 E7.length uY] (fun k_ => some k_ ≠ (.slice T8 eF.length TO : Value).ownBlock) (fun k_ => some k_ = (.slice FL yT.length CW : Value).ownBlock ∨ some k_ = (.slice M7 E7.length uY : Value).ownBlock) rfl rfl ?aP (fun k_ hk_ => hk_.elim (fun h_ => ((Kd.aM (ok' := fun k_ => ((fun k_ => some k_ ≠ (.slice T8 eF.length TO : Value).ownBlock)) k_ ∧ some k_ ≠ (nU : Value).ownBlock) (Kd.mJ (wE.1) (Kd.wZ fL.1) (by decide)) (fun k_ hk => ⟨hk.1.1.2, hk.2⟩))).1 k_ h_.symm) (fun h_ => ((Kd.aM (ok' := fun k_ => ((fun k_ => some k_ ≠ (.slice T8 eF.length TO : Value).ownBlock)) k_ ∧ some k_ ≠ (nU : Value).ownBlock) (Kd.mJ (vD.1) (Kd.wZ fL.1) (by decide)) (fun k_ hk => ⟨hk.1.1.2, hk.2⟩))).1 k_ h_.symm)) ?aF ?aO ?aB ?aS ?aL ?_
   (case aP => exact BX _ _ _ (⟨(aA aN mU).f0, yT, E7⟩ : S56) (Kd.aM (Kd.rT rfl (Kd.aM (ok' := fun k_ => ((fun k_ => some k_ ≠ (.slice T8 eF.length TO : Value).ownBlock)) k_ ∧ some k_ ≠ (nU : Value).ownBlock) (Kd.mJ (wE.1) (Kd.wZ fL.1) (by decide)) (fun k_ hk => ⟨hk.1.1.2, hk.2⟩))) (fun _ h_ => Or.inl h_)) (Kd.aM (Kd.rT rfl (Kd.aM (ok' := fun k_ => ((fun k_ => some k_ ≠ (.slice T8 eF.length TO : Value).ownBlock)) k_ ∧ some k_ ≠ (nU : Value).ownBlock) (Kd.mJ (vD.1) (Kd.wZ fL.1) (by decide)) (fun k_ hk => ⟨hk.1.1.2, hk.2⟩))) (fun _ h_ => Or.inr (h_))) (Tp wE.1 vD.1))
   (case aB => exact Q7)
   (case aF => exact (fun k_ hk => Kd.fresh' (Kd.R_lt G8) k_ hk))
   (case aO => exact (by refine rS ?_; exact Kd.nD fL.1 (fun k_ hk => ⟨hk.1.1, fun e_ => e_.elim (fun h_ => hk.1.2 h_) (fun h_ => hk.2 h_)⟩)))
   (case aS => exact (aG Q7))
   (case aL => have := xr.out; omega)
   intro aVN w26 ho hb hg hat
   rw [← Pd.out] at ho
   replace k3 := am (Kd.sP G8 (Kd.wZ U7) (by decide) hg)
   replace a6 := gkS aW hg fL a6
   replace aH := gkS cB hg fL aH
   replace jV := gkS OV hg fL jV
   replace HB := am hb
   have Zt := am ho
   clear fL
   clear wE
   clear vD
   clear ho hb hg hat
   obtain ⟨aC8, aE0, a1I⟩ := Kd.BR Zt.1
   (first | subst a1I | (obtain ⟨f4_, f5_⟩ := sj a1I; subst f4_; subst f5_))
   refine nK hK (uB2 jV (uB2 a6 (uBx HB kM (uBx HB kN (uBx HB kO (uBx HB KL (uBx HB KM (uBx HB KO (uBx HB KP (uBx HB KQ (uAx HB KR))))))))))).1 fun hHeld => ?_
   clear hK K
   refine pU1 25 ?_
   refine lN 26 none fun K hK => ?_
   have aUV : w26.cell? ⟨U1, 1, none⟩ = some (nU) := (bC jV.1 1).trans rfl
   have aMP := eB jV.1 1
   have aAO := rD.1
   have aAP := sY.1
   have a98 := xQ.1
   have a99 := z8.1
   refine uX (w1 := ?_) (by rfl) rfl ?_ ?_
   rotate_left
   ·go_simp
    rfl
   refine hK.out _ _ ?_
   clear hK K
   refine dN ?_
   try go_wp2
   go_roundg k1
   case measure => have := HK1.out; omega
   case rel => exact ⟨(wrap64 (mU + 1)), (a5N), (.slice aC8 a5N.length aE0), dM, H', ⟨by have := HK1.out; omega⟩, ⟨mR k3 jV⟩, ⟨mS Zt jV⟩, ⟨qF a6 rD⟩, ⟨qF aH sY⟩, ⟨by refine rB ?_; refine bR (cs := #[.slice T8 eF.length TO, nU]) ?_ 1 _ rfl; refine rB ?_; exact jV.1⟩, ⟨Q7⟩⟩
  ·obtain ⟨rfl, rfl⟩ := sZ2 H
   repeat clear H
   have Z29 := nZ2 cO cV rD xQ
   have Z31 := cz2 a6
   have Z32 := nZ1 z8 sY
   have Z33 := cz2 jV
   have Z34 := cz2 aH
   obtain ⟨Dk, Ek, Fb⟩ := Kd.BR fL.1
   subst Fb
   go_wp2
   refine cR aZ 31 #[.slice T8 eF.length TO, .slice Dk oU.length Ek] (qP aH) Try.underlying31 ?_
   exact ⟨_, _, eR, mR k3 aH, mS fL aH, Q7⟩
def fV.f (k : Nat) (bF : List ByteArray) (aN : List (S56)) (a1 : ByteArray) : Option (List ByteArray × (List (S56)) × Int) := (aK.f k bF aN).bind fun h => (if h = true then ((dE.f k bF aN).bind fun a => ((gV.f k bF aN a1).bind fun b => (if b < 0 then (some (a.1, a.2, 3)) else ((some (([] : List (S56)) : List (S56))).bind fun c => (if 0 ≤ b then (if b ≤ (a.2.length : Int) then ((some (a.2.take (b : Int).toNat : List (S56))).bind fun d => (if c.length + d.length < 2199023255552 then ((some (c ++ d : List (S56))).bind fun e => (if 0 ≤ (wrap64 (b + 1)) then (if (wrap64 (b + 1)) ≤ (a.2.length : Int) then ((some (a.2.drop ((wrap64 (b + 1)) : Int).toNat : List (S56))).bind fun g => (if e.length + g.length < 2199023255552 then (some (a.1, (e ++ g), 0)) else (none))) else (none)) else (none))) else (none))) else (none)) else (none)))))) else (some (([] : List ByteArray), ([] : List (S56)), 1)))
def fV.T7 : Bool × List (List Nat × List Nat) := (true, [([], []), ([], []), ([1], [1]), ([], []), ([2, 3], [2, 3]), ([0, 4], [0, 4]), ([], []), ([6], [6]), ([], []), ([8], [8]), ([7, 9], [7, 9]), ([5, 10, 5], [5, 10]), ([0, 1, 2, 3, 4, 5, 6, 7, 8, 9, 10, 11], []), ([12, 11, 11, 0, 1, 2, 3, 4, 5, 6, 7, 8, 9, 10, 11], [11, 12])])
def fV.B7 : List Nat := [0, 0, 2, 0, 14, 31, 0, 64, 0, 256, 960, 2047, 4095, 8191]
theorem fV.tab7 : rtab .any (opsOf Try.f46 7) = fV.T7 := by kernel_rfl
theorem fV.II : kP fV.T7.2 fV.B7 = true := by kernel_rfl
theorem fV.calls (k : Nat) (eU : Option Addr) (eY : Nat) (bF : List ByteArray) (fG : Option Addr) (eQ : Nat) (aN : List (S56)) (a1 : ByteArray) (r1 : List ByteArray) (r2 : List (S56)) (r3 : Int) (w : World) (iG : Kd.C Kd.string w eU bF.length bF) (iD : bF.length ≤ eY) (iC : Kd.C k56 w fG aN.length aN) (iE : aN.length ≤ eQ) (h : fV.f k bF aN a1 = some (r1, r2, r3)) :
  Calls Try.prog 46 #[.agg #[.slice eU bF.length eY, .slice fG aN.length eQ], .string a1] w fun e w' => ∃ v0_ v1_ : Value, e = .returned (.tuple #[.agg #[v0_, v1_], .int .i64 r3]) ∧ Kd.R Kd.string 9 w' w.heap.size (fun k_ => (w.heap.size ≤ k_)) v0_ r1 ∧ Kd.N k56 56 w' w.heap.size (F10 w v0_) v1_ r2 ∧ Below w.heap.size w w' := by
 have hu31 := Try.underlying31
 obtain ⟨dY, dX⟩ := mZ2 iG iD
 obtain ⟨cU, f4⟩ := mZ2 iC iE
 clear iG iD iC iE
 have HB := am (Below.refl w.heap.size w)
 unfold fV.f at h
 have H := h
 clear h
 obtain ⟨eF, A3, H⟩ := bd H
 refine tC H ?_ ?_ <;> clear H <;> intro c4 H <;> subst c4
 obtain ⟨⟨dC, dZ⟩, A5, H⟩ := bd H
 dsimp only at H
 obtain ⟨dJ, A6, H⟩ := bd H
 refine ic H ?_ ?_ <;> clear H <;> intro XW H
 obtain ⟨rfl, rfl, rfl⟩ := sZ3 H
 repeat clear H
 have Dx := trivial
 have yl := trivial
 rotate_left
 obtain ⟨DY, hy112⟩ : ∃ y_ : List (S56), y_ = (([] : List (S56))) := ⟨_, rfl⟩
 replace H : (if 0 ≤ dJ then (if dJ ≤ (dZ.length : Int) then ((some (dZ.take (dJ : Int).toNat : List (S56))).bind fun MZ => (if DY.length + MZ.length < 2199023255552 then ((some (DY ++ MZ : List (S56))).bind fun QJ => (if 0 ≤ (wrap64 (dJ + 1)) then (if (wrap64 (dJ + 1)) ≤ (dZ.length : Int) then ((some (dZ.drop ((wrap64 (dJ + 1)) : Int).toNat : List (S56))).bind fun E9 => (if QJ.length + E9.length < 2199023255552 then (some (dC, (QJ ++ E9), 0)) else (none))) else (none)) else (none))) else (none))) else (none)) else (none)) = some (r1, r2, r3) := by first | (rw [hy112]; with_reducible exact H) | (have H2_ := (Option.bind_some _ _).symm.trans H; rw [hy112]; with_reducible exact H2_) | (have H2_ := (Option.bind_some _ _).symm.trans H; with_reducible exact H2_) | with_reducible exact H | (rw [hy112]; exact H) | exact H
 have NI := am hy112
 clear hy112
 obtain ⟨WF, aLF, H⟩ := cP H
 obtain ⟨Bd, a0E, H⟩ := cP H
 obtain ⟨MZ, NJ, H⟩ := bY H
 obtain ⟨xt, H⟩ := cL H
 obtain ⟨QJ, Ii, H⟩ := bY H
 obtain ⟨ji28, hji28⟩ : ∃ j_ : Int, (wrap64 (dJ + 1)) = j_ := ⟨_, rfl⟩
 replace H : (if 0 ≤ (ji28) then (if (ji28) ≤ (dZ.length : Int) then ((some (dZ.drop ((ji28) : Int).toNat : List (S56))).bind fun E9 => (if QJ.length + E9.length < 2199023255552 then (some (dC, (QJ ++ E9), 0)) else (none))) else (none)) else (none)) = some (r1, r2, r3) := by first | (rw [hji28] at H; exact H) | (simp only [hji28] at H ⊢; exact H)
 (try rw [hji28] at A3)
 (try rw [hji28] at A5)
 (try rw [hji28] at A6)
 have hji28w : (IntKind.i64.wrap (dJ + 1)) = ji28 := (q8 _).trans hji28
 obtain ⟨ck, aLI, H⟩ := cP H
 obtain ⟨NO, a0G, H⟩ := cP H
 obtain ⟨E9, QV, H⟩ := bY H
 obtain ⟨Oq, H⟩ := cL H
 obtain ⟨uk, Pg⟩ := yv (QJ ++ E9); first | replace H := bW Pg H | rw [← Pg.1] at H
 obtain ⟨rfl, rfl, rfl⟩ := sZ3 H
 repeat clear H
 have Dx := trivial
 have ym := trivial
 rotate_left
 obtain ⟨rfl, rfl, rfl⟩ := sZ3 H
 repeat clear H
 have yn := trivial
 rotate_left
 all_goals
  go_enter Try.func46, Try.ntmps46
  try go_wp2_with (first | ((with_reducible refine gD 2 ?_); refine bX 2 #[.slice eU bF.length eY, .slice fG aN.length eQ] 31 ?_; intro aT hg aP9 hbox hb; have a6 := am hbox; have g5 := am (oS : w.heap.size ≤ aT); have iJ := g5; replace HB := bS eG hb; clear hb hbox hg) | ((with_reducible refine gD 4 ?_); refine bX 4 #[.slice none 0 0, .slice none 0 0] 31 ?_; intro aZ hg aPA hbox hb; have aH := am hbox; have m4 := am (I1 : w.heap.size ≤ aZ); have nX := m4; replace HB := bS eE hb; have cO := nL aW hg; have cV := nG aW hg; replace a6 := bB aW hb; clear hb hbox hg; have aIP := nZ1 cO cV; have aIQ := cz2 a6) | ((with_reducible refine gC 22 ?_); revert Dx; intro Dx; refine cQ (some 9) Try.func22 (aK.calls k _ _ bF _ _ aN true _ (pB dY) dX.1 (pB cU) f4.1 A3.out) ?_; rintro aPB hb; replace a6 := bB aW hb; replace aH := bB cB hb; replace HB := bS l6 hb; clear hb; have aIS := cz2 a6) | ((with_reducible refine gC 89 ?_); revert Dx; intro Dx; refine cE (some 13) Try.func89 (dE.calls k _ _ bF _ _ aN dC dZ _ (pB dY) dX.1 (pB cU) f4.1 A5.out) ?_; rintro e aPC ⟨LE, IV, rfl, f3, lL, hb⟩; refine ⟨_, rfl, ?_⟩; have eP := am (Kd.d9 (Kd.jQ (M := fun k_ => (w.heap.size ≤ k_)) f3 (aG l6) (fun k_ h_ => h_)) (aG l6)); have fU := am (Kd.jD (Kd.aJ (ok' := F12 w LE aT aZ) (Kd.S_N (Kd.nP lL)) (fun k_ hk_ => ⟨(Nat.le_trans (aG l6) hk_.2.1), hk_.1, (fB aW k_ hk_.2.1), (fB cB k_ hk_.2.1)⟩)) (aG l6)); replace a6 := bB aW hb; replace aH := bB cB hb; replace HB := bS l6 hb; clear hb f3 lL) | ((with_reducible refine gD 6 ?_); revert Dx; intro Dx; refine bX 6 #[.slice none 0 0, .slice none 0 0] 31 ?_; intro cS hg aPD hbox hb; replace eP := RB vO hb; replace fU := am (Kd.dQ (Kd.iO yY cS (Nat.le_of_eq hg.symm)) hb); have bV := am hbox; have J4 := am (ZN : w.heap.size ≤ cS); have LI := J4; replace HB := bS l6 hb; have gI := nL aW hg; have iH := nG aW hg; replace a6 := bB aW hb; have gU := nL cB hg; have jC := nG cB hg; replace aH := bB cB hb; clear hb hbox hg; obtain ⟨sU, tI, oa⟩ := Kd.bP eP.1; subst oa; have aIT := nZ2 iH gI jC gU; have aIU := cz2 bV; obtain ⟨y6, wN, oc⟩ := Kd.gM fU.1; subst oc; have aIV := cz2 a6) | ((with_reducible refine gC 82 ?_); revert yl; intro yl; refine cQ (some 16) Try.func82 (gV.calls k _ _ bF _ _ aN a1 dJ _ (Kd.aX dY.1 g4) dX.1 (Kd.aX cU.1 g4) f4.1 A6.out) ?_; rintro aPE hb; replace eP := am (Kd.fP (by refine rR ?_; exact (Kd.aM (fR (fR (tR eP bV))) (fun _ h_ => h_.1))) hb); replace fU := am (Kd.dQ (by refine rN ?_; exact (Kd.aJ (fN (fN (Kd.aJ fU.1 (fun k_ hk => (⟨hk, hk.2⟩ : _ ∧ k_ ≠ cS))))) (fun _ h_ => h_.1))) hb); replace a6 := am (bH (g := aT) (o := .cells #[.slice eU bF.length eY, .slice fG aN.length eQ] 31 (0, 0)) sg hb); replace aH := am (bH (g := aZ) (o := .cells #[.slice none 0 0, .slice none 0 0] 31 (0, 0)) si hb); replace bV := am (bH (g := cS) (o := .cells #[.slice sU dC.length tI, .slice y6 dZ.length wN] 31 (0, 0)) (qP bV) hb); replace HB := bS g4 hb; clear hb; have aIW := cz2 bV; have aIX := cz2 aH) | ((with_reducible refine gC 82 ?_); revert ym; intro ym; refine cQ (some 16) Try.func82 (gV.calls k _ _ bF _ _ aN a1 dJ _ (Kd.aX dY.1 g4) dX.1 (Kd.aX cU.1 g4) f4.1 A6.out) ?_; rintro a4Y hb; replace eP := am (Kd.fP (by refine rR ?_; exact (Kd.aM (fR (fR (tR eP bV))) (fun _ h_ => h_.1))) hb); replace fU := am (Kd.dQ (by refine rN ?_; exact (Kd.aJ (fN (fN (Kd.aJ fU.1 (fun k_ hk => (⟨hk, hk.2⟩ : _ ∧ k_ ≠ cS))))) (fun _ h_ => h_.1))) hb); replace a6 := am (bH (g := aT) (o := .cells #[.slice eU bF.length eY, .slice fG aN.length eQ] 31 (0, 0)) sg hb); replace aH := am (bH (g := aZ) (o := .cells #[.slice none 0 0, .slice none 0 0] 31 (0, 0)) si hb); replace bV := am (bH (g := cS) (o := .cells #[.slice sU dC.length tI, .slice y6 dZ.length wN] 31 (0, 0)) (qP bV) hb); replace HB := bS g4 hb; clear hb) | ((with_reducible refine gC 22 ?_); revert yn; intro yn; refine cQ (some 9) Try.func22 (aK.calls k _ _ bF _ _ aN false _ (pB dY) dX.1 (pB cU) f4.1 A3.out) ?_; rintro aPF hb; replace a6 := bB aW hb; replace aH := bB cB hb; replace HB := bS l6 hb; clear hb; have aIZ := cz2 aH))
 ·refine cT aZ 31 #[.slice sU dC.length tI, .slice y6 dZ.length wN] (qP aH) Try.underlying31 ?_
  exact ⟨_, _, eR, mR eP aH, by refine rN ?_; exact Kd.aJ (fN (fN (Kd.aJ fU.1 (fun k_ hk => (⟨hk, hk.1.2.2.2⟩ : _ ∧ k_ ≠ aZ))))) (fun _ hk => ⟨hk.1.1.1, hk.1.1.2.1⟩), g4⟩
 ·replace eP := RD eP
  replace fU := ND fU
  replace a6 := BD a6
  replace aH := BD aH
  replace bV := BD bV
  replace HB := am (aV HB.1)
  have q48 : (dJ : Int) ≤ ((dZ.length : Int) : Int) := oT
  obtain ⟨i048, dx, _, hsz48, _⟩ := info_parts rC
  have hroom48 : dZ.length ≤ wN := (Kd.bL fU.1).2.1
  have hC48 : Kd.F k56 _ _ y6 dZ.length dZ := (Kd.V_at (base := w.heap.size) (Kd.N_V fU.1)).2.2
  have hcut48 := Y4 (P := Try.prog) 29 56 .i64 Try.underlying29 dx y6 dZ.length wN dJ (oT) q48 hroom48
  have qu := Kd.Du (m := (dJ : Int).toNat) hC48 (by omega)
  have hy48 : MZ.length = (dJ : Int).toNat := (by rw [NJ.out, List.length_take]; omega)
  rw [← NJ.out] at qu
  rw [← hy48] at hcut48
  have BI := am (show Kd.V k56 56 _ w.heap.size _ (.slice y6 MZ.length wN) MZ from Kd.V_mk (by omega) qu)
  have aI6 := am (show MZ.length ≤ wN from by omega)
  clear qu hC48 hroom48 dx hsz48
  have KY48 := am hy48
  clear hy48
  replace q48 := eq_true q48
  have q49 : ((ji28) : Int) ≤ ((dZ.length : Int) : Int) := oT
  obtain ⟨i049, dy, _, hsz49, _⟩ := info_parts rC
  have hroom49 : dZ.length ≤ wN := (Kd.bL fU.1).2.1
  have hC49 : Kd.F k56 _ _ y6 dZ.length dZ := (Kd.V_at (base := w.heap.size) (Kd.N_V fU.1)).2.2
  have aGC : (0 : Int) ≤ ((ji28) : Int) := oT
  have hcut49 := TR (P := Try.prog) 29 56 .i64 Try.underlying29 dy 3 hsz49 y6 dZ.length wN (ji28) aGC q49
  have Rz := Kd.Ns (m := ((ji28) : Int).toNat) (c := wN) hC49 (by omega) hroom49
  obtain ⟨A49, hA49⟩ : ∃ A1, A1 = (if wN = ((ji28) : Int).toNat then y6 else (y6 : Option Addr).map (·.add (((ji28) : Int).toNat * 3))) := ⟨_, rfl⟩
  obtain ⟨WG, Xm⟩ : ∃ c1, c1 = wN - ((ji28) : Int).toNat := ⟨_, rfl⟩
  have hy49 : E9.length = dZ.length - ((ji28) : Int).toNat := (by rw [QV.out, List.length_drop] <;> omega)
  rw [show (dZ).drop ((ji28) : Int).toNat = E9 from QV.out.symm] at Rz
  replace Rz : Kd.F k56 _ _ A49 E9.length E9 := (by rw [hA49]; exact Rz)
  rw [← hy49, ← hA49, ← Xm] at hcut49
  have y9 := am (show Kd.V k56 56 _ w.heap.size _ (.slice A49 E9.length WG) E9 from Kd.V_mk (by rw [hy49, Xm]; exact Nat.sub_le_sub_right hroom49 _) Rz)
  have aI9 := am (show E9.length ≤ WG from by rw [hy49, Xm]; exact Nat.sub_le_sub_right hroom49 _)
  clear Rz hC49 hroom49 dy hsz49 Xm
  have KY49 := am hy49
  have KA49 := am hA49
  clear hy49 hA49
  replace q49 := eq_true q49
  refine sT [13] 14 (uA2 bV) (fun hHeld => ?_)
  refine eO fV.tab7 fV.II (fun HT_ HW_ => ?_)
  generalize a4Y.drew = w47 at eP fU a6 aH bV HB BI y9 hHeld ⊢
  refine pU5 1 3 6 8 9 ?_
  refine tK2 2 (some 22) ?_
  refine pU1 4 ?_
  refine tK2 7 (some 27) ?_
  refine pU1 10 ?_
  refine oN 0 (some 20) fun K hK => ?_
  refine Kd.MF k56 _ 56 ?hg (N' := 20) ?hd (xs := ([] : List (S56))) (inner := []) (ok := (F23 w (.slice sU dC.length tI) (.slice y6 dZ.length wN) aT aZ cS)) (okp := (F23 w (.slice sU dC.length tI) (.slice y6 dZ.length wN) aT aZ cS)) ?hr ?hp (fun _ hk => hk) ((show ∀ k_, w47.heap.size ≤ k_ → (F23 w (.slice sU dC.length tI) (.slice y6 dZ.length wN) aT aZ cS) k_ from fun k_ hk => ⟨(Nat.le_trans (aG g4) hk), Kd.fresh' (Kd.R_lt vO) k_ hk, Kd.fresh' (Kd.N_lt yY) k_ hk, fB aW k_ hk, fB cB k_ hk, fB jM k_ hk⟩) _ (Nat.le_refl _)) (Below.refl _ _) (Nat.le_refl _) (by simp) ?_; (case hd => rfl); (case hg => rfl); (case hr => first | (go_simp; done) | (go_simp; rfl)); (case hp => exact (Reps.none _ _))
  intro IA w50 Bw hb hg_ hnew_
  clear hg_ hnew_
  (first | rw [← NI.out] at Bw | (simp only [Int.reduceToNat] at Bw; rw [← NI.out] at Bw))
  replace eP := RB vO hb
  replace fU := am (Kd.rQ yY (Kd.xG Bw) hb)
  replace BI := am (Kd.pE (rV BI.1) (Kd.xG Bw) hb)
  replace y9 := am (Kd.pE (rV y9.1) (Kd.xG Bw) hb)
  have iM := am (Kd.jD Bw (aG g4))
  replace a6 := bB aW hb
  replace aH := bB cB hb
  replace bV := bB jM hb
  replace HB := bS g4 hb
  clear hb Bw
  refine nK hK (uA2 bV).1 fun hHeld => ?_
  clear hK K
  refine oN 5 (some 25) fun K hK => ?_
  refine Kd.nZ k56 (w0 := w) w.heap.size (by rfl) (.tmp 20) (.tmp 24) 29 56 Ag0 64 rfl Try.underlying29 rC rfl (by decide) (by omega) IA DY MZ _ _ _ (F13 w (.slice sU dC.length tI) aT aZ cS) (FA (F13 w (.slice sU dC.length tI) aT aZ cS) IA) rfl rfl ?aO ?aR (fun _ hk => hk) ?aF ?aB ?aS ?aL ?_
  (case aR => exact (by skip; exact Kd.V_F (Kd.jL (ok' := (FA (F13 w (.slice sU dC.length tI) aT aZ cS) IA)) (BI.1) (fun k_ hk => ⟨⟨hk.1.1.1, ⟨hk.1.1.2.1, ⟨hk.1.1.2.2.1, ⟨hk.1.1.2.2.2, hk.1.2⟩⟩⟩⟩, hk.2⟩))))
  (case aB => exact g4)
  (case aF => exact (fun k_ hk => ⟨(Nat.le_trans (aG g4) hk), Kd.fresh' (Kd.R_lt vO) k_ hk, fB aW k_ hk, fB cB k_ hk, fB jM k_ hk⟩))
  (case aO => exact (by refine rN ?_; exact Kd.aJ iM.1 (fun _ hk => ⟨hk.1, ⟨hk.2.1, ⟨hk.2.2.2.1, ⟨hk.2.2.2.2.1, hk.2.2.2.2.2⟩⟩⟩⟩)))
  (case aS => exact (aG g4))
  (case aL => have := xt.out; omega)
  intro PB w52 ho hb hg hat
  rw [← Ii.out] at ho
  replace a6 := gkN aW hg iM a6
  replace aH := gkN cB hg iM aH
  replace eP := am (Kd.sP vO (Kd.lY (rN iM.1)) (by decide) hg)
  replace fU := am (Kd.uD (ok := (F13 w (.slice sU dC.length tI) aT aZ cS)) (by refine rN ?_; exact Kd.aJ fU.1 (fun _ hk => ⟨⟨hk.1.1.1, ⟨hk.1.1.2.1, ⟨hk.1.1.2.2.1, ⟨hk.1.1.2.2.2, hk.1.2⟩⟩⟩⟩, hk.2⟩)) hg hat)
  replace bV := gkN jM hg iM bV
  replace BI := am (Kd.lC (ok := (F13 w (.slice sU dC.length tI) aT aZ cS)) (by refine rV ?_; exact Kd.jL BI.1 (fun _ hk => ⟨⟨hk.1.1.1, ⟨hk.1.1.2.1, ⟨hk.1.1.2.2.1, ⟨hk.1.1.2.2.2, hk.1.2⟩⟩⟩⟩, hk.2⟩)) hg hat)
  replace y9 := am (Kd.lC (ok := (F13 w (.slice sU dC.length tI) aT aZ cS)) (by refine rV ?_; exact Kd.jL y9.1 (fun _ hk => ⟨⟨hk.1.1.1, ⟨hk.1.1.2.1, ⟨hk.1.1.2.2.1, ⟨hk.1.1.2.2.2, hk.1.2⟩⟩⟩⟩, hk.2⟩)) hg hat)
  replace HB := am hb
  have kI := am ho
  clear iM
  clear ho hb hg hat
  refine nK hK (uA2 bV).1 fun hHeld => ?_
  clear hK K
  refine oN 11 (some 31) fun K hK => ?_
  refine Kd.nZ k56 (w0 := w) w.heap.size (by rfl) (.tmp 25) (.tmp 30) 29 56 Ag0 64 rfl Try.underlying29 rC rfl (by decide) (by omega) PB QJ E9 _ _ _ (F13 w (.slice sU dC.length tI) aT aZ cS) (FA (F13 w (.slice sU dC.length tI) aT aZ cS) PB) rfl rfl ?aO ?aR (fun _ hk => hk) ?aF ?aB ?aS ?aL ?_
  (case aR => exact (by skip; exact Kd.V_F (Kd.jL (ok' := (FA (F13 w (.slice sU dC.length tI) aT aZ cS) PB)) (y9.1) (fun k_ hk => ⟨⟨hk.1.1, ⟨hk.1.2.1, ⟨hk.1.2.2.1, ⟨hk.1.2.2.2.1, hk.1.2.2.2.2⟩⟩⟩⟩, hk.2⟩))))
  (case aB => exact g4)
  (case aF => exact (fun k_ hk => ⟨(Nat.le_trans (aG g4) hk), Kd.fresh' (Kd.R_lt vO) k_ hk, fB aW k_ hk, fB cB k_ hk, fB jM k_ hk⟩))
  (case aO => exact (rN kI.1))
  (case aS => exact (aG g4))
  (case aL => have := Oq.out; omega)
  intro aGZ w53 ho hb hg hat
  rw [← Pg.out] at ho
  replace a6 := gkN aW hg kI a6
  replace aH := gkN cB hg kI aH
  replace eP := am (Kd.sP vO (Kd.lY (rN kI.1)) (by decide) hg)
  replace fU := am (Kd.uD (ok := (F13 w (.slice sU dC.length tI) aT aZ cS)) yY hg hat)
  replace bV := gkN jM hg kI bV
  replace BI := am (Kd.lC (ok := (F13 w (.slice sU dC.length tI) aT aZ cS)) (rV BI.1) hg hat)
  replace y9 := am (Kd.lC (ok := (F13 w (.slice sU dC.length tI) aT aZ cS)) (rV y9.1) hg hat)
  replace HB := am hb
  have Aq := am ho
  clear kI
  clear ho hb hg hat
  obtain ⟨gr, mt, a1Q⟩ := Kd.gM Aq.1
  (first | subst a1Q | (obtain ⟨f4_, f5_⟩ := sj a1Q; subst f4_; subst f5_))
  refine nK hK (uA2 bV).1 fun hHeld => ?_
  clear hK K
  refine pU1 12 ?_
  refine lN 13 none fun K hK => ?_
  have aV6 : w53.cell? ⟨cS, 1, none⟩ = some (.slice y6 dZ.length wN) := (bC bV.1 1).trans rfl
  have aN0 := eB bV.1 1
  have aB5 := gI.1
  have aB6 := gU.1
  have a9P := iH.1
  have a9Q := jC.1
  refine uX (w1 := ?_) (by rfl) rfl ?_ ?_
  rotate_left
  ·go_simp
   rfl
  refine hK.out _ _ ?_
  clear hK K
  refine dN ?_
  have Z56 := cz2 bV
  have Z57 := cz2 aH
  try go_wp2
  refine cT aZ 31 #[.slice sU dC.length tI, .slice gr uk.length mt] (by refine rB ?_; refine bR (cs := #[.slice sU dC.length tI, .slice none 0 0]) ?_ 1 _ rfl; refine rB ?_; refine bR (cs := #[.slice none 0 0, .slice none 0 0]) ?_ 0 _ rfl; refine rB ?_; refine dF ?_ gU.1 _; refine rB ?_; exact aH.1) Try.underlying31 ?_
  exact ⟨_, _, by first | rfl | (simp [tJ, tK] <;> rfl) | (simp only [← hji28]; first | rfl | (simp [tJ, tK] <;> rfl)) | (simp [*, tJ, tK] <;> rfl), by refine rR ?_; exact Kd.aM (fR (fR (Kd.tF (p := ⟨cS, 1, none⟩) (Kd.fQ (tR eP bV) aH.1 (by decide)) (fun _ hk => hk.1.2) (.slice gr uk.length mt)))) (fun _ hk => hk.1.1.1), by refine rN ?_; exact Kd.aJ (fN (fN (Kd.EF (p := ⟨cS, 1, none⟩) (Kd.aJ (Kd.aJ Aq.1 (fun k_ hk => (⟨hk, hk.2.2.2.2⟩ : _ ∧ k_ ≠ cS))) (fun k_ hk => (⟨hk, hk.1.2.2.2.1⟩ : _ ∧ k_ ≠ aZ))) (fun _ hk => hk.1.2) (.slice gr uk.length mt)))) (fun _ hk => ⟨hk.1.1.1, hk.1.1.2.1⟩), g4⟩
 refine cT aZ 31 #[.slice none 0 0, .slice none 0 0] pY6 Try.underlying31 ?_
 exact ⟨_, _, eR, by first | exact Kd.uE _ _ _ _ _ | exact Kd.CG _ _ _ _ _ | exact Kd.CO _ _ _ _ _ | exact Kd.CJ _ _ _ _ _ | exact Kd.yU _ _ _ _ _, by first | exact Kd.yU _ _ _ _ _ | exact Kd.CG _ _ _ _ _ | exact Kd.CO _ _ _ _ _ | exact Kd.CJ _ _ _ _ _ | exact Kd.uE _ _ _ _ _, l6⟩
abbrev MB := S56
abbrev KB := k56
def BkS (w0 w : World) (lo hi : Nat) (v0 v1 : Value) (l0 : List ByteArray) (l1 : List MB) : Prop :=
  Kd.R Kd.string 9 w w0.heap.size (fun k => lo ≤ k ∧ k < hi) v0 l0 ∧ Kd.S KB 56 w w0.heap.size (fun k => (lo ≤ k ∧ k < hi) ∧ some k ≠ v0.ownBlock) v1 l1
def RwS (w0 w : World) (lo hi : Nat) (v : Value) (l : List ByteArray) : Prop := Kd.R Kd.string 9 w w0.heap.size (fun k => lo ≤ k ∧ k < hi) v l
section
variable {w0 w w' : World} {lo hi n : Nat} {v0 v1 v : Value} {l0 l r1 : List ByteArray} {l1 r2 : List MB} {S : Nat → Prop}
theorem BkS.kept (h : BkS w0 w lo hi v0 v1 l0 l1) (hk : Kept w w' S) (hS : ∀ k, lo ≤ k → k < hi → ¬ S k) : BkS w0 w' lo hi v0 v1 l0 l1 :=
  ⟨Kd.EY h.1 hk (fun k e => hS k e.1 e.2), Kd.Pt h.2 hk (fun k e => hS k e.1.1 e.1.2)⟩
theorem RwS.kept (h : RwS w0 w lo hi v l) (hk : Kept w w' S) (hS : ∀ k, lo ≤ k → k < hi → ¬ S k) : RwS w0 w' lo hi v l := Kd.EY h hk (fun k e => hS k e.1 e.2)
theorem BkS.made (f3 : Kd.R Kd.string 9 w' w.heap.size (fun _ => True) v0 r1) (lL : Kd.S KB 56 w' w.heap.size (fun k => some k ≠ v0.ownBlock) v1 r2) (h0 : w0.heap.size ≤ n) (hn : n ≤ w.heap.size) : BkS w0 w' n w'.heap.size v0 v1 r1 r2 :=
  ⟨Kd.d9 (Kd.aM (Kd.qR f3) (fun k h => ⟨Nat.le_trans hn h.2.1, h.2.2.1⟩)) (Nat.le_trans h0 hn), Kd.Ik (Kd.nD (Kd.nP lL) (fun k h => ⟨⟨Nat.le_trans hn h.2.1, h.2.2.1⟩, h.1⟩)) (Nat.le_trans h0 hn)⟩
theorem RwS.made (f3 : Kd.R Kd.string 9 w' w.heap.size (fun _ => True) v l) (h0 : w0.heap.size ≤ n) (hn : n ≤ w.heap.size) : RwS w0 w' n w'.heap.size v l :=
  Kd.d9 (Kd.aM (Kd.qR f3) (fun k h => ⟨Nat.le_trans hn h.2.1, h.2.2.1⟩)) (Nat.le_trans h0 hn)
theorem BkS.slices (h : BkS w0 w lo hi v0 v1 l0 l1) : ∃ A0 c0 A1 c1, v0 = .slice A0 l0.length c0 ∧ v1 = .slice A1 l1.length c1 := by
 obtain ⟨A0, c0, e0⟩ := Kd.bP h.1
 obtain ⟨A1, c1, e1⟩ := Kd.BR h.2
 exact ⟨A0, c0, A1, c1, e0, e1⟩
theorem RwS.slices (h : RwS w0 w lo hi v l) : ∃ A0 c0, v = .slice A0 l.length c0 := Kd.bP h
end
theorem Ci {α : Type} {c : Prop} [Decidable c] {a : Option α} {b : α} (h : (if c then a else none) = some b) : c ∧ a = some b := by
 by_cases hc : c
 ·rw [if_pos hc] at h; exact ⟨hc, h⟩
 rw [if_neg hc] at h; cases h
theorem Kept.noth {w w' : World} (h : Below w.heap.size w w') : Kept w w' (fun _ => False) := Kept.of_below h _
theorem Kept.two {w : World} {g : Nat} (a b : Nat) (u v : Value) : Kept w ((w.setCell ⟨g, a, none⟩ u).setCell ⟨g, b, none⟩ v) (fun k => k = g) :=
  Kept.setCell (p := ⟨g, b, none⟩) (Kept.setCell (p := ⟨g, a, none⟩) (Kept.refl w (fun k => k = g)) (Or.inl rfl) u) (Or.inl rfl) v
abbrev IB := S56
def gB (l : List IB) (i : Nat) : IB := l.getD i z56
theorem jF (l : List IB) (i : Nat) : aA l (i : Int) = gB l i := by unfold aA gB; rw [Int.toNat_natCast]
theorem getD_lt {α : Type} (l : List α) (z : α) {i : Nat} (h : i < l.length) : l.getD i z = l[i] := by rw [List.getD_eq_getElem?_getD, List.getElem?_eq_getElem h]; rfl
theorem kV (n : Int) (h : -9223372036854775808 ≤ n ∧ n ≤ 9223372036854775807) : wrap64 n = n := by unfold wrap64; omega
def iZ (l : List IB) : Nat := (l.map fun b => 1 + b.f1.length + b.f2.length).sum
theorem sK (b : IB) (r : List IB) : iZ (b :: r) = 1 + b.f1.length + b.f2.length + iZ r := by simp [iZ]
theorem Ev.pos {α : Type} {c : Prop} [Decidable c] {a b : Nat → Option α} {r : α} (h : c) (H : Ev a r) : Ev (fun k => if c then a k else b k) r := by
 obtain ⟨K, hK⟩ := H
 exact ⟨K, fun k hk => by simp only [if_pos h]; exact hK k hk⟩
theorem Ev.neg {α : Type} {c : Prop} [Decidable c] {a b : Nat → Option α} {r : α} (h : ¬ c) (H : Ev b r) : Ev (fun k => if c then a k else b k) r := by
 obtain ⟨K, hK⟩ := H
 exact ⟨K, fun k hk => by simp only [if_neg h]; exact hK k hk⟩
theorem Ev.ret {α : Type} {r s : α} (h : r = s) : Ev (fun _ => some r) s := ⟨0, fun _ _ => by rw [h]⟩
theorem Ev.sub {α : Type} {g : Nat → Option α} {r s : α} (H : Ev g r) (h : r = s) : Ev g s := h ▸ H
theorem Ev.test {α : Type} {a b : Nat → Option α} {r : α} (t : Bool) (H1 : t = true → Ev a r) (H2 : t = false → Ev b r) : Ev (fun k => if t = true then a k else b k) r := by
 cases t with
 | true => exact Ev.pos rfl (H1 rfl)
 | false => exact Ev.neg (by simp) (H2 rfl)
theorem Ev.prop {α : Type} {c : Prop} [Decidable c] {a b : Nat → Option α} {r : α} (H1 : c → Ev a r) (H2 : ¬ c → Ev b r) : Ev (fun k => if c then a k else b k) r := by
 by_cases h : c
 ·exact Ev.pos h (H1 h)
 exact Ev.neg h (H2 h)
theorem Ev.loop {α : Type} {f : Nat → Nat → Option α} {val : Nat → α} (n : Nat) (hend : Ev (fun k => f k n) (val n))
    (hstep : ∀ i, i < n → Ev (fun k => f k (i + 1)) (val (i + 1)) → Ev (fun k => f k i) (val i)) : ∀ i, i ≤ n → Ev (fun k => f k i) (val i) := by
 intro i hi
 obtain ⟨d, hd⟩ : ∃ d, n - i = d := ⟨_, rfl⟩
 induction d generalizing i with
 | zero => have : i = n := by omega
           subst this; exact hend
 | succ d ih => exact hstep i (by omega) (ih (i + 1) (by omega) (by omega))
def allR (P : Nat → Bool) (n i : Nat) : Bool := (List.range' i (n - i)).all P
def anyR (P : Nat → Bool) (n i : Nat) : Bool := (List.range' i (n - i)).any P
theorem CQ (P : Nat → Bool) (n : Nat) : allR P n n = true := by simp [allR]
theorem Ay (P : Nat → Bool) (n : Nat) : anyR P n n = false := by simp [anyR]
theorem zF (P : Nat → Bool) {n i : Nat} (h : i < n) : allR P n i = (P i && allR P n (i + 1)) := by
 unfold allR; rw [show n - i = (n - (i + 1)) + 1 by omega, List.range'_succ, List.all_cons]
theorem WB (P : Nat → Bool) {n i : Nat} (h : i < n) : anyR P n i = (P i || anyR P n (i + 1)) := by
 unfold anyR; rw [show n - i = (n - (i + 1)) + 1 by omega, List.range'_succ, List.any_cons]
theorem vE (P : Nat → Bool) (n i : Nat) : allR P n i = true ↔ ∀ j, i ≤ j → j < n → P j = true := by
 unfold allR; rw [List.all_eq_true]
 constructor
 ·intro h j h1 h2; exact h j (by rw [List.mem_range'_1]; omega)
 intro h j hj; rw [List.mem_range'_1] at hj; exact h j (by omega) (by omega)
theorem Qb (P : Nat → Bool) (n i : Nat) : anyR P n i = true ↔ ∃ j, i ≤ j ∧ j < n ∧ P j = true := by
 unfold anyR; rw [List.any_eq_true]
 constructor
 ·rintro ⟨j, hj, h⟩; rw [List.mem_range'_1] at hj; exact ⟨j, by omega, by omega, h⟩
 rintro ⟨j, h1, h2, h⟩; exact ⟨j, by rw [List.mem_range'_1]; omega, h⟩
theorem Ev.SS {f : Nat → Nat → Option Bool} {P : Nat → Bool} (n : Nat) (hend : Ev (fun k => f k n) true)
    (hyes : ∀ i r, i < n → P i = true → Ev (fun k => f k (i + 1)) r → Ev (fun k => f k i) r) (hno : ∀ i, i < n → P i = false → Ev (fun k => f k i) false) : ∀ i, i ≤ n → Ev (fun k => f k i) (allR P n i) :=
  Ev.loop (val := allR P n) n (by rw [CQ]; exact hend) fun i hi H => by
    rw [zF P hi]
    cases h : P i with
    | true => exact hyes i _ hi h H
    | false => exact hno i hi h
theorem Ev.Jz {f : Nat → Nat → Option Bool} {P : Nat → Bool} (n : Nat) (hend : Ev (fun k => f k n) false)
    (hno : ∀ i r, i < n → P i = false → Ev (fun k => f k (i + 1)) r → Ev (fun k => f k i) r) (hyes : ∀ i, i < n → P i = true → Ev (fun k => f k i) true) : ∀ i, i ≤ n → Ev (fun k => f k i) (anyR P n i) :=
  Ev.loop (val := anyR P n) n (by rw [Ay]; exact hend) fun i hi H => by
    rw [WB P hi]
    cases h : P i with
    | false => exact hno i _ hi h H
    | true => exact hyes i hi h
theorem WA {α : Type} (p : α → Bool) (z : α) (l : List α) : anyR (fun j => p (l.getD j z)) l.length 0 = l.any p := by
 rw [Bool.eq_iff_iff, Qb, List.any_eq_true]
 constructor
 ·rintro ⟨j, _, h, hp⟩; exact ⟨l.getD j z, by rw [List.getD_eq_getElem?_getD, List.getElem?_eq_getElem h]; exact List.getElem_mem h, hp⟩
 rintro ⟨x, hx, hp⟩; obtain ⟨j, h, rfl⟩ := List.getElem_of_mem hx; exact ⟨j, by omega, h, by rw [List.getD_eq_getElem?_getD, List.getElem?_eq_getElem h]; exact hp⟩
theorem Mo {α : Type} (d : α) (l : List α) (i : Nat) : rdOf d l (i : Int) = l.getD i d := by
 unfold rdOf; rw [Int.toNat_natCast]
theorem jZ {i n : Nat} (h : i < n) (hn : n ≤ 9223372036854775807) : wrap64 ((i : Int) + 1) = ((i + 1 : Nat) : Int) := by
 unfold wrap64; omega
theorem WW {i : Nat} (h : 0 < i) (hn : i ≤ 9223372036854775807) : wrap64 ((i : Int) - 1) = ((i - 1 : Nat) : Int) := by
 unfold wrap64; omega
theorem toList_inj {a b : ByteArray} : a.toList = b.toList ↔ a = b := by
 constructor
 ·intro h
  rw [ByteArray.toList_eq, ByteArray.toList_eq] at h
  cases a; cases b
  simpa using h
 intro h; rw [h]
def gS (l : List ByteArray) (i : Nat) : ByteArray := l.getD i ByteArray.empty
def ltB (a b : ByteArray) : Bool := Op.bytesLess a.toList b.toList
theorem pI (l : List ByteArray) (i : Nat) : rdOf ByteArray.empty l (i : Int) = gS l i := Mo _ _ _
def AY (l all : List ByteArray) (j : Nat) : Bool := hasS all (gS l j) && (decide (j = 0) || ltB (gS l (j - 1)) (gS l j))
def lV (l all : List ByteArray) : Bool := allR (AY l all) l.length 0
def pQ (a b : List ByteArray) : Bool := a.any (hasS b)
def I6 (l : List ByteArray) (j : Nat) : Bool := wI (gS l j) && (decide (j = 0) || ltB (gS l (j - 1)) (gS l j))
def L9 (l : List ByteArray) : Bool := decide (l.length ≤ 8) && allR (I6 l) l.length 0
theorem FU {α : Type} {l : List ByteArray} {i : Nat} (hi : i < l.length) (hl : l.length ≤ 9223372036854775807) {a b : Nat → Option α} {r : α}
  (H1 : (decide (i = 0) || ltB (gS l (i - 1)) (gS l i)) = true → Ev a r) (H2 : (decide (i = 0) || ltB (gS l (i - 1)) (gS l i)) = false → Ev b r) :
  Ev (fun k => if (i : Int) > 0 then (if 0 ≤ (wrap64 ((i : Int) - 1)) then (if (wrap64 ((i : Int) - 1)) < (l.length : Int) then (if ((Op.bytesLess ((rdOf ByteArray.empty l (wrap64 ((i : Int) - 1))).toList) ((rdOf ByteArray.empty l (i : Int)).toList)) = true) then a k else b k) else none) else none) else a k) r := by
 by_cases h0 : i = 0
 ·exact Ev.neg (by omega) (H1 (by simp [h0]))
 rw [WW (by omega) (by omega), pI, pI]
 refine Ev.pos (by omega) (Ev.pos (by omega) (Ev.pos (by omega) (Ev.test _ (fun h => H1 ?_) (fun h => H2 ?_))))
 ·simp only [ltB, h, Bool.or_true]
 simp only [ltB, h, h0, decide_false, Bool.or_false]
theorem ZW (n low high : Int) : xW.f n low high = some (decide (low ≤ n) && decide (n ≤ high)) := by
 unfold xW.f
 by_cases h : n ≥ low
 ·rw [if_pos h, show decide (low ≤ n) = true from decide_eq_true h]; rfl
 rw [if_neg h, show decide (low ≤ n) = false from decide_eq_false h]; rfl
theorem wC (s : ByteArray) : Ev (fun k => cZ.f k s) (wI s) := by
 unfold cZ.f
 simp only [ZW, Option.bind_some]
 refine Ev.test _ (fun h => ?_) (fun h => ?_)
 ·simp only [Bool.and_eq_true, decide_eq_true_eq] at h
  have E := Ev.SS (f := fun k i => cZ.l0 k s (i : Int)) (P := fun j => okc (bt s (j : Int))) s.size
    (by refine Ev.step (fun k => cZ.l0.eq_2 s _ k) ?_
        exact Ev.neg (by omega) (Ev.ret rfl))
    (fun i r hi hp H => by
      refine Ev.step (fun k => cZ.l0.eq_2 s _ k) ?_
      refine Ev.pos (by omega) (Ev.pos (by omega) ?_)
      simp only [ZK]
      rw [jZ hi (by omega)]
      exact Ev.pos hp H)
    (fun i hi hp => by
      refine Ev.step (fun k => cZ.l0.eq_2 s _ k) ?_
      refine Ev.pos (by omega) (Ev.pos (by omega) ?_)
      simp only [ZK]
      exact Ev.neg (by simp [hp]) (Ev.ret rfl)) 0 (by omega)
  refine Ev.sub E ?_
  unfold wI allR
  rw [show decide (1 ≤ s.size) = true from decide_eq_true (by omega), show decide (s.size ≤ 8) = true from decide_eq_true (by omega)]
  rfl
 refine Ev.ret ?_
 unfold wI
 by_cases h1 : 1 ≤ s.size
 ·by_cases h2 : s.size ≤ 8
  ·have : (decide ((1 : Int) ≤ (s.size : Int)) && decide ((s.size : Int) ≤ 8)) = true := by simp; omega
   rw [this] at h; cases h
  simp [h2]
 simp [h1]
theorem qB (l : List ByteArray) (s : ByteArray) (hl : l.length ≤ 9223372036854775807) : Ev (fun k => dO.f k l s) (hasS l s) := by
 unfold dO.f
 have E := Ev.Jz (f := fun k i => dO.l0 k l s (i : Int)) (P := fun j => (fun x : ByteArray => s.toList == x.toList) (l.getD j ByteArray.empty)) l.length
   (by refine Ev.step (fun k => dO.l0.eq_2 l s _ k) ?_
       exact Ev.neg (by omega) (Ev.ret rfl))
   (fun i r hi hp H => by
     refine Ev.step (fun k => dO.l0.eq_2 l s _ k) ?_
     refine Ev.pos (by omega) (Ev.pos (by omega) ?_)
     rw [jZ hi hl, pI]
     exact Ev.neg (fun e => by simp [← e, gS] at hp) H)
   (fun i hi hp => by
     refine Ev.step (fun k => dO.l0.eq_2 l s _ k) ?_
     refine Ev.pos (by omega) (Ev.pos (by omega) ?_)
     rw [pI]
     exact Ev.pos (beq_iff_eq.mp (show (s.toList == (gS l i).toList) = true from hp)).symm (Ev.ret rfl)) 0 (by omega)
 exact Ev.sub E (WA (fun x : ByteArray => s.toList == x.toList) ByteArray.empty l)
theorem EH (l : List ByteArray) (s : ByteArray) (hl : l.length ≤ 9223372036854775807) : Ev (fun k => bG.f k l s) (hasS l s) :=
  Ev.of (bG.mono l s) (JJ l s hl)
theorem Kb (s : ByteArray) : Ev (fun k => dI.f k s) (wI s) := Ev.of (dI.mono s) (Ka s)
theorem sD (l all : List ByteArray) (hl : l.length ≤ 9223372036854775807) (ha : all.length ≤ 9223372036854775807) : Ev (fun k => dA.f k l all) (lV l all) := by
 unfold dA.f
 refine Ev.SS (f := fun k i => dA.l0 k l all (i : Int)) (P := AY l all) l.length
   (by refine Ev.step (fun k => dA.l0.eq_2 l all _ k) ?_
       exact Ev.neg (by omega) (Ev.ret rfl))
   (fun i r hi hp H => by
     simp only [AY, Bool.and_eq_true] at hp
     refine Ev.step (fun k => dA.l0.eq_2 l all _ k) ?_
     refine Ev.pos (by omega) (Ev.pos (by omega) (Ev.bind (qB all _ ha) ?_))
     rw [pI, hp.1]
     refine Ev.pos rfl (FU hi hl (fun _ => ?_) (fun h => by rw [hp.2] at h; cases h))
     rw [jZ hi hl]
     exact H)
   (fun i hi hp => by
     refine Ev.step (fun k => dA.l0.eq_2 l all _ k) ?_
     refine Ev.pos (by omega) (Ev.pos (by omega) (Ev.bind (qB all _ ha) ?_))
     rw [pI]
     refine Ev.test _ (fun h1 => FU hi hl (fun h2 => ?_) (fun h => Ev.ret rfl)) (fun _ => Ev.ret rfl)
     simp only [AY, h1, h2, Bool.and_true] at hp
     cases hp) 0 (by omega)
theorem DD (l all : List ByteArray) (hl : l.length ≤ 9223372036854775807) (ha : all.length ≤ 9223372036854775807) : Ev (fun k => gY.f k l all) (lV l all) := by
 unfold gY.f
 refine Ev.SS (f := fun k i => gY.l0 k l all l (l.length : Int) (i : Int)) (P := AY l all) l.length
   (by refine Ev.step (fun k => gY.l0.eq_2 l all l _ _ k) ?_
       exact Ev.neg (by omega) (Ev.ret rfl))
   (fun i r hi hp H => by
     simp only [AY, Bool.and_eq_true] at hp
     refine Ev.step (fun k => gY.l0.eq_2 l all l _ _ k) ?_
     refine Ev.pos (by omega) (Ev.pos (by omega) (Ev.pos (by omega) (Ev.bind (EH all _ ha) ?_)))
     rw [pI, hp.1]
     refine Ev.pos rfl (FU hi hl (fun _ => ?_) (fun h => by rw [hp.2] at h; cases h))
     rw [jZ hi hl]
     exact H)
   (fun i hi hp => by
     refine Ev.step (fun k => gY.l0.eq_2 l all l _ _ k) ?_
     refine Ev.pos (by omega) (Ev.pos (by omega) (Ev.pos (by omega) (Ev.bind (EH all _ ha) ?_)))
     rw [pI]
     refine Ev.test _ (fun h1 => FU hi hl (fun h2 => ?_) (fun h => Ev.ret rfl)) (fun _ => Ev.ret rfl)
     simp only [AY, h1, h2, Bool.and_true] at hp
     cases hp) 0 (by omega)
theorem MV (l : List ByteArray) : Ev (fun k => fM.f k l) (L9 l) := by
 unfold fM.f L9
 refine Ev.prop (fun h => Ev.ret (by rw [show decide (l.length ≤ 8) = false from decide_eq_false (by omega)]; rfl)) (fun h => ?_)
 rw [show decide (l.length ≤ 8) = true from decide_eq_true (by omega), Bool.true_and]
 have hl : l.length ≤ 9223372036854775807 := by omega
 refine Ev.SS (f := fun k i => fM.l0 k l (i : Int)) (P := I6 l) l.length
   (by refine Ev.step (fun k => fM.l0.eq_2 l _ k) ?_
       exact Ev.neg (by omega) (Ev.ret rfl))
   (fun i r hi hp H => by
     simp only [I6, Bool.and_eq_true] at hp
     refine Ev.step (fun k => fM.l0.eq_2 l _ k) ?_
     refine Ev.pos (by omega) (Ev.pos (by omega) (Ev.bind (wC _) ?_))
     rw [pI, hp.1]
     refine Ev.pos rfl (FU hi hl (fun _ => ?_) (fun h => by rw [hp.2] at h; cases h))
     rw [jZ hi hl]
     exact H)
   (fun i hi hp => by
     refine Ev.step (fun k => fM.l0.eq_2 l _ k) ?_
     refine Ev.pos (by omega) (Ev.pos (by omega) (Ev.bind (wC _) ?_))
     rw [pI]
     refine Ev.test _ (fun h1 => FU hi hl (fun h2 => ?_) (fun h => Ev.ret rfl)) (fun _ => Ev.ret rfl)
     simp only [I6, h1, h2, Bool.and_true] at hp
     cases hp) 0 (by omega)
theorem BC (a b : List ByteArray) (ha : a.length ≤ 9223372036854775807) (hb : b.length ≤ 9223372036854775807) : Ev (fun k => fF.f k a b) (pQ a b) := by
 unfold fF.f
 have E := Ev.Jz (f := fun k i => fF.l0 k a b (i : Int)) (P := fun j => hasS b (a.getD j ByteArray.empty)) a.length
   (by refine Ev.step (fun k => fF.l0.eq_2 a b _ k) ?_
       exact Ev.neg (by omega) (Ev.ret rfl))
   (fun i r hi hp H => by
     refine Ev.step (fun k => fF.l0.eq_2 a b _ k) ?_
     refine Ev.pos (by omega) (Ev.pos (by omega) (Ev.bind (qB b _ hb) ?_))
     rw [pI, jZ hi ha]
     exact Ev.neg (by rw [show hasS b (gS a i) = false from hp]; simp) H)
   (fun i hi hp => by
     refine Ev.step (fun k => fF.l0.eq_2 a b _ k) ?_
     refine Ev.pos (by omega) (Ev.pos (by omega) (Ev.bind (qB b _ hb) ?_))
     rw [pI]
     exact Ev.pos hp (Ev.ret rfl)) 0 (by omega)
 exact Ev.sub E (WA (hasS b) ByteArray.empty a)
def Bok (bs : List IB) : Prop := ∀ b ∈ bs, b.f1.length ≤ 9223372036854775807 ∧ b.f2.length ≤ 9223372036854775807
theorem Bok.at_ {bs : List IB} (h : Bok bs) {i : Nat} (hi : i < bs.length) : (gB bs i).f1.length ≤ 9223372036854775807 ∧ (gB bs i).f2.length ≤ 9223372036854775807 := by
 rw [show gB bs i = bs[i] from getD_lt bs _ hi]; exact h _ (List.getElem_mem hi)
def vF (ts : List ByteArray) (bs : List IB) (i : Nat) : Bool :=
  wI (gB bs i).f0 && ((decide (i = 0) || ltB (gB bs (i - 1)).f0 (gB bs i).f0) && (lV (gB bs i).f2 ts && lV (gB bs i).f1 (gB bs i).f2))
def yV (bs : List IB) (i : Nat) : Bool := allR (fun q => !pQ (gB bs i).f1 (gB bs q).f1) i 0
def rU (ts : List ByteArray) (bs : List IB) : Bool := L9 ts && (decide (bs.length ≤ 5) && allR (fun i => vF ts bs i && yV bs i) bs.length 0)
theorem VZ {α : Type} {bs : List IB} {i : Nat} (hi : i < bs.length) (hl : bs.length ≤ 9223372036854775807) {a b : Nat → Option α} {r s : α} (H1 : Ev a r) (H2 : Ev b s) :
  Ev (fun k => if (i : Int) > 0 then (if 0 ≤ (wrap64 ((i : Int) - 1)) then (if (wrap64 ((i : Int) - 1)) < (bs.length : Int) then (if ((Op.bytesLess (((aA bs (wrap64 ((i : Int) - 1))).f0).toList) (((aA bs (i : Int)).f0).toList)) = true) then a k else b k) else none) else none) else a k)
   (if (decide (i = 0) || ltB (gB bs (i - 1)).f0 (gB bs i).f0) = true then r else s) := by
 by_cases h0 : i = 0
 ·rw [if_pos (by simp [h0])]; exact Ev.neg (by omega) H1
 rw [WW (by omega) (by omega), jF, jF, show (decide (i = 0) || ltB (gB bs (i - 1)).f0 (gB bs i).f0) = ltB (gB bs (i - 1)).f0 (gB bs i).f0 from by simp [h0]]
 refine Ev.pos (by omega) (Ev.pos (by omega) (Ev.pos (by omega) (Ev.test _ (fun h => ?_) (fun h => ?_))))
 ·rw [if_pos (show ltB (gB bs (i - 1)).f0 (gB bs i).f0 = true from h)]; exact H1
 rw [if_neg (by rw [show ltB (gB bs (i - 1)).f0 (gB bs i).f0 = false from h]; simp)]; exact H2
theorem pJ (ts : List ByteArray) (bs : List IB) (ht : ts.length ≤ 9223372036854775807) (hl : bs.length ≤ 9223372036854775807) (hb : Bok bs) : Ev (fun k => aK.f k ts bs) (rU ts bs) := by
 unfold aK.f rU
 have loop : Ev (fun k => aK.l0 k ((0 : Nat) : Int) ts bs) (allR (fun i => vF ts bs i && yV bs i) bs.length 0) := by
   refine Ev.loop (f := fun k i => aK.l0 k (i : Int) ts bs) (val := allR (fun i => vF ts bs i && yV bs i) bs.length) bs.length ?_ ?_ 0 (by omega)
   · rw [CQ]
     refine Ev.step (fun k => aK.l0.eq_2 _ ts bs k) ?_
     exact Ev.neg (by omega) (Ev.ret rfl)
   · intro i hi H
     rw [zF _ hi]
     generalize allR (fun i => vF ts bs i && yV bs i) bs.length (i + 1) = r at H
     obtain ⟨b1, b2⟩ := hb.at_ hi
     have inner : Ev (fun k => aK.l1 k (i : Int) ((0 : Nat) : Int) ts bs (gB bs i).f0 (gB bs i).f1 (gB bs i).f2) (yV bs i && r) := by
       refine Ev.loop (f := fun k j => aK.l1 k (i : Int) (j : Int) ts bs (gB bs i).f0 (gB bs i).f1 (gB bs i).f2) (val := fun j => allR (fun q => !pQ (gB bs i).f1 (gB bs q).f1) i j && r) i ?_ ?_ 0 (by omega)
       · simp only [CQ, Bool.true_and]
         refine Ev.step (fun k => aK.l1.eq_2 _ _ ts bs _ _ _ k) ?_
         refine Ev.neg (by omega) ?_
         rw [jZ hi hl]; exact H
       · intro j hj H2
         simp only [zF (fun q => !pQ (gB bs i).f1 (gB bs q).f1) hj]
         refine Ev.step (fun k => aK.l1.eq_2 _ _ ts bs _ _ _ k) ?_
         refine Ev.pos (by omega) (Ev.pos (by omega) (Ev.pos (by omega) ?_))
         rw [jF, jZ hj (by omega)]
         refine Ev.bind (BC _ _ b1 (hb.at_ (show j < bs.length by omega)).1) ?_
         refine Ev.test _ (fun h => Ev.ret (by rw [h]; rfl)) (fun h => Ev.sub H2 (by rw [h]; rfl))
     have j2 : ∀ b, Ev (fun k => aK.j2 k (i : Int) b ts bs (gB bs i).f0 (gB bs i).f1 (gB bs i).f2) (!b && (yV bs i && r)) := by
       intro b
       refine Ev.step (fun k => aK.j2.eq_2 _ _ ts bs _ _ _ k) ?_
       refine Ev.test _ (fun h => Ev.ret (by rw [h]; rfl)) (fun h => Ev.sub inner (by rw [h]; rfl))
     have X : Ev (fun k => (dA.f k (gB bs i).f2 ts).bind fun t => if t = true then ((dA.f k (gB bs i).f1 (gB bs i).f2).bind fun t2 => aK.j2 k (i : Int) (!t2) ts bs (gB bs i).f0 (gB bs i).f1 (gB bs i).f2) else aK.j2 k (i : Int) true ts bs (gB bs i).f0 (gB bs i).f1 (gB bs i).f2)
         (lV (gB bs i).f2 ts && lV (gB bs i).f1 (gB bs i).f2 && (yV bs i && r)) := by
       refine Ev.bind (sD _ _ b2 ht) ?_
       refine Ev.test _ (fun h => Ev.bind (sD _ _ b1 b2) (Ev.sub (j2 _) (by rw [h]; simp))) (fun h => Ev.sub (j2 _) (by rw [h]; simp))
     refine Ev.step (fun k => aK.l0.eq_2 _ ts bs k) ?_
     refine Ev.pos (by omega) (Ev.pos (by omega) (Ev.bind (wC _) ?_))
     have A := VZ hi hl X (j2 true)
     rw [jF] at *
     refine Ev.test _ (fun h => Ev.sub A ?_) (fun h => Ev.sub (j2 true) ?_)
     · simp only [vF, h, Bool.true_and]
       cases (decide (i = 0) || ltB (gB bs (i - 1)).f0 (gB bs i).f0) <;> simp [Bool.and_assoc]
     · simp [vF, h]
 have j0 : ∀ b, Ev (fun k => aK.j0 k b ts bs) (!b && allR (fun i => vF ts bs i && yV bs i) bs.length 0) := by
   intro b
   refine Ev.step (fun k => aK.j0.eq_2 _ ts bs k) ?_
   refine Ev.test _ (fun h => Ev.ret (by rw [h]; rfl)) (fun h => Ev.sub loop (by rw [h]; rfl))
 refine Ev.bind (MV ts) ?_
 refine Ev.test _ (fun h => Ev.sub (j0 _) ?_) (fun h => Ev.sub (j0 _) (by rw [h]; simp))
 rw [h, show (!decide ((bs.length : Int) > 5)) = decide (bs.length ≤ 5) from by rw [Bool.eq_iff_iff]; simp; omega]
 rfl
theorem Gj (ts : List ByteArray) : (decide (ts.length ≤ 8) && (lV ts ts && !(ts.any fun s => !wI s))) = L9 ts := by
 unfold L9
 congr 1
 rw [Bool.eq_iff_iff, Bool.and_eq_true, lV, vE, vE]
 have hany : ((!(ts.any fun s => !wI s)) = true) ↔ ∀ s ∈ ts, wI s = true := by simp
 rw [hany]
 constructor
 ·rintro ⟨h1, h2⟩ j h0 hj
  have := h1 j h0 hj
  simp only [AY, Bool.and_eq_true] at this
  simp only [I6, Bool.and_eq_true]
  exact ⟨h2 _ (by rw [show gS ts j = ts[j] from getD_lt ts _ hj]; exact List.getElem_mem hj), this.2⟩
 intro h
 refine ⟨fun j h0 hj => ?_, fun s hs => ?_⟩
 ·have := h j h0 hj
  simp only [I6, Bool.and_eq_true] at this
  simp only [AY, Bool.and_eq_true]
  refine ⟨?_, this.2⟩
  unfold hasS
  rw [List.any_eq_true]
  exact ⟨gS ts j, by rw [show gS ts j = ts[j] from getD_lt ts _ hj]; exact List.getElem_mem hj, by simp⟩
 obtain ⟨j, hj, rfl⟩ := List.getElem_of_mem hs
 have := h j (by omega) hj
 simp only [I6, Bool.and_eq_true] at this
 rw [← show gS ts j = ts[j] from getD_lt ts _ hj]
 exact this.1
theorem sS (ts : List ByteArray) (bs : List IB) (ht : ts.length ≤ 9223372036854775807) (hl : bs.length ≤ 9223372036854775807) (hb : Bok bs) : Ev (fun k => aQ.f k ts bs) (rU ts bs) := by
 unfold aQ.f rU
 have loop : Ev (fun k => aQ.l0 k bs (bs.length : Int) ((0 : Nat) : Int) ts bs) (allR (fun i => vF ts bs i && yV bs i) bs.length 0) := by
   refine Ev.loop (f := fun k i => aQ.l0 k bs (bs.length : Int) (i : Int) ts bs) (val := allR (fun i => vF ts bs i && yV bs i) bs.length) bs.length ?_ ?_ 0 (by omega)
   · rw [CQ]
     refine Ev.step (fun k => aQ.l0.eq_2 bs _ _ ts bs k) ?_
     exact Ev.neg (by omega) (Ev.ret rfl)
   · intro i hi H
     rw [zF _ hi]
     generalize allR (fun i => vF ts bs i && yV bs i) bs.length (i + 1) = r at H
     obtain ⟨b1, b2⟩ := hb.at_ hi
     have inner : Ev (fun k => aQ.l1 k bs (bs.length : Int) (i : Int) (bs.take i) ((bs.take i).length : Int) ((0 : Nat) : Int) ts bs (gB bs i).f0 (gB bs i).f1 (gB bs i).f2) (yV bs i && r) := by
       have hlen : (bs.take i).length = i := by rw [List.length_take]; omega
       refine Ev.loop (f := fun k j => aQ.l1 k bs (bs.length : Int) (i : Int) (bs.take i) ((bs.take i).length : Int) (j : Int) ts bs (gB bs i).f0 (gB bs i).f1 (gB bs i).f2) (val := fun j => allR (fun q => !pQ (gB bs i).f1 (gB bs q).f1) i j && r) i ?_ ?_ 0 (by omega)
       · simp only [CQ, Bool.true_and]
         refine Ev.step (fun k => aQ.l1.eq_2 _ _ _ _ _ _ ts bs _ _ _ k) ?_
         refine Ev.neg (by rw [hlen]; omega) ?_
         rw [jZ hi hl]; exact H
       · intro j hj H2
         simp only [zF (fun q => !pQ (gB bs i).f1 (gB bs q).f1) hj]
         refine Ev.step (fun k => aQ.l1.eq_2 _ _ _ _ _ _ ts bs _ _ _ k) ?_
         refine Ev.pos (by rw [hlen]; omega) (Ev.pos (by omega) (Ev.pos (by rw [hlen]; omega) ?_))
         rw [jF, jZ hj (by omega), show gB (bs.take i) j = gB bs j from by unfold gB; rw [List.getD_eq_getElem?_getD, List.getElem?_take_of_lt hj, List.getD_eq_getElem?_getD]]
         simp only [q9.f, Option.bind_some]
         refine Ev.test _ (fun h => Ev.ret (by rw [show pQ (gB bs i).f1 (gB bs j).f1 = true from h]; rfl)) (fun h => Ev.sub H2 (by rw [show pQ (gB bs i).f1 (gB bs j).f1 = false from h]; rfl))
     have j2 : ∀ b, Ev (fun k => aQ.j2 k (i : Int) bs (bs.length : Int) (i : Int) b ts bs (gB bs i).f0 (gB bs i).f1 (gB bs i).f2) (!b && (yV bs i && r)) := by
       intro b
       refine Ev.step (fun k => aQ.j2.eq_2 _ _ _ _ _ ts bs _ _ _ k) ?_
       refine Ev.test _ (fun h => Ev.ret (by rw [h]; rfl)) (fun h => Ev.pos (by omega) (Ev.pos (by omega) ?_))
       rw [Int.toNat_natCast]
       simp only [Option.bind_some]
       exact Ev.sub inner (by rw [h]; rfl)
     have X : Ev (fun k => (gY.f k (gB bs i).f2 ts).bind fun t => if t = true then ((gY.f k (gB bs i).f1 (gB bs i).f2).bind fun t2 => aQ.j2 k (i : Int) bs (bs.length : Int) (i : Int) (!t2) ts bs (gB bs i).f0 (gB bs i).f1 (gB bs i).f2) else aQ.j2 k (i : Int) bs (bs.length : Int) (i : Int) true ts bs (gB bs i).f0 (gB bs i).f1 (gB bs i).f2)
         (lV (gB bs i).f2 ts && lV (gB bs i).f1 (gB bs i).f2 && (yV bs i && r)) := by
       refine Ev.bind (DD _ _ b2 ht) ?_
       refine Ev.test _ (fun h => Ev.bind (DD _ _ b1 b2) (Ev.sub (j2 _) (by rw [h]; simp))) (fun h => Ev.sub (j2 _) (by rw [h]; simp))
     refine Ev.step (fun k => aQ.l0.eq_2 _ _ _ ts bs k) ?_
     refine Ev.pos (by omega) (Ev.pos (by omega) (Ev.pos (by omega) (Ev.bind (Kb _) ?_)))
     have A := VZ hi hl X (j2 true)
     rw [jF] at *
     refine Ev.test _ (fun h => Ev.sub A ?_) (fun h => Ev.sub (j2 true) ?_)
     · simp only [vF, h, Bool.true_and]
       cases (decide (i = 0) || ltB (gB bs (i - 1)).f0 (gB bs i).f0) <;> simp [Bool.and_assoc]
     · simp [vF, h]
 have j0 : ∀ b, Ev (fun k => aQ.j0 k b ts bs) (!b && allR (fun i => vF ts bs i && yV bs i) bs.length 0) := by
   intro b
   refine Ev.step (fun k => aQ.j0.eq_2 _ ts bs k) ?_
   refine Ev.test _ (fun h => Ev.ret (by rw [h]; rfl)) (fun h => Ev.sub loop (by rw [h]; rfl))
 rw [← Gj]
 refine Ev.prop (fun h => Ev.sub (j0 _) ?_) (fun h => Ev.prop (fun h2 => Ev.sub (j0 _) ?_) (fun h2 => Ev.bind (DD ts ts ht ht) ?_))
 ·rw [show decide (ts.length ≤ 8) = false from decide_eq_false (by omega)]; rfl
 ·rw [show decide (bs.length ≤ 5) = false from decide_eq_false (by omega)]; simp
 rw [show decide (bs.length ≤ 5) = true from decide_eq_true (by omega), show decide (ts.length ≤ 8) = true from decide_eq_true (by omega)]
 simp only [iY.f, Option.bind_some]
 refine Ev.test _ (fun h => Ev.sub (j0 _) (by rw [h]; simp)) (fun h => Ev.sub (j0 _) (by rw [h]; simp))
def jS.l0 : Nat → Int → List ByteArray → Int → List ByteArray → List (S56) → Option (Bool)
 | 0, _, _, _, _, _ => none
 | k + 1, c, d, a, e, b => if a < (b.length : Int) then (if a = c then (jS.l0 k c d (wrap64 (a + 1)) e b) else (if 0 ≤ a then ((dO.f k d ((aA b a).f0)).bind fun g => (if g = true then (jS.l0 k c d (wrap64 (a + 1)) e b) else (if 0 ≤ c then (if c < (b.length : Int) then ((fF.f k ((aA b a).f1) ((aA b c).f2)).bind fun h => (if h = true then (some false) else (jS.l0 k c d (wrap64 (a + 1)) e b))) else (none)) else (none)))) else (none))) else (some true)
def jS.f (k : Nat) (bF : List ByteArray) (aN : List (S56)) (a1 : Int) (l2 : List ByteArray) : Option (Bool) := jS.l0 k a1 l2 0 bF aN
theorem jS.calls (k : Nat) (eU : Option Addr) (eY : Nat) (bF : List ByteArray) (fG : Option Addr) (eQ : Nat) (aN : List (S56)) (a1 : Int) (A2 : Option Addr) (c2 : Nat) (l2 : List ByteArray) (r : Bool) (w : World) (iG : Kd.C Kd.string w eU bF.length bF) (iD : bF.length ≤ eY) (iC : Kd.C k56 w fG aN.length aN) (iE : aN.length ≤ eQ) (U2 : Kd.C Kd.string w A2 l2.length l2) (PZ : l2.length ≤ c2) (h : jS.f k bF aN a1 l2 = some r) :
  Calls Try.prog 83 #[.agg #[.slice eU bF.length eY, .slice fG aN.length eQ], .int .i64 a1, .slice A2 l2.length c2] w fun e w' => e = .returned (.bool r) ∧ Below w.heap.size w w' := by
 have hu31 := Try.underlying31
 obtain ⟨dY, dX⟩ := mZ2 iG iD
 obtain ⟨cU, f4⟩ := mZ2 iC iE
 obtain ⟨EE, zZ⟩ := mZ2 U2 PZ
 clear iG iD iC iE U2 PZ
 have HB := am (Below.refl w.heap.size w)
 unfold jS.f at h
 have H := h
 clear h
 have H' := am H
 repeat clear H
 go_enter Try.func83, Try.ntmps83
 go_wp2_with (first | ((with_reducible refine gD 3 ?_); refine bX 3 #[.slice eU bF.length eY, .slice fG aN.length eQ] 31 ?_; intro aT hg w4 hbox hb; have a6 := am hbox; have g5 := am (oS : w.heap.size ≤ aT); have iJ := g5; replace HB := bS eG hb; clear hb hbox hg))
 repeat (go_quiet (first | ((with_reducible refine gD 3 ?_); refine bX 3 #[.slice eU bF.length eY, .slice fG aN.length eQ] 31 ?_; intro aT hg w4 hbox hb; have a6 := am hbox; have g5 := am (oS : w.heap.size ≤ aT); have iJ := am (oS : w.heap.size ≤ aT); replace HB := bS eG hb; clear hb hbox hg)); try go_wp2_with (first | ((with_reducible refine gD 3 ?_); refine bX 3 #[.slice eU bF.length eY, .slice fG aN.length eQ] 31 ?_; intro aT hg w4 hbox hb; have a6 := am hbox; have g5 := am (oS : w.heap.size ≤ aT); have iJ := am (oS : w.heap.size ≤ aT); replace HB := bS eG hb; clear hb hbox hg)))
 go_loopg [7] k (fun kq v7 w' => ∃ (kW : Int), v7 = .int .i64 kW ∧ aC (jS.l0 kq a1 l2 kW bF aN = some r) ∧ aC (kq ≤ k) ∧ aC (w'.heap[aT]? = some (.cells #[(.slice eU bF.length eY), (.slice fG aN.length eQ)] 31 (0, 0))) ∧ aC (Below w.heap.size w w'))
 case atStart => exact ⟨(0), dM, H', ⟨Nat.le_refl _⟩, ⟨rB a6.1⟩, ⟨eE⟩⟩
 clear H'
 try clear c2
 obtain ⟨kW, rfl, HA, HK1, a6, HB⟩ := hrel
 cases gk with
 | zero => exact absurd HA.out (by simp [jS.l0])
 | succ k1 =>
  have H := HA.out
  clear HA
  simp only [jS.l0] at H
  refine ic H ?_ ?_ <;> clear H <;> intro IP H
  refine iq H ?_ ?_ <;> clear H <;> intro c6 RQ Bi H
  have H' := am H
  repeat clear H
  have Z7 := cz2 a6
  rotate_left
  obtain ⟨LB, H⟩ := cN H
  obtain ⟨eF, A9, H⟩ := bd H
  refine tC H ?_ ?_ <;> clear H <;> intro Ba H <;> subst Ba
  have H' := am H
  repeat clear H
  have Uq := cz2 a6
  obtain ⟨pF, vA, vG, vB, vH, uK, oR, qS, qT, rP, rL, vT, vS, F7, FB⟩ := aT56 cU HB kW
  cases uK
  have yo := trivial
  rotate_left
  obtain ⟨QX, H⟩ := cN H
  obtain ⟨WD, H⟩ := cN H
  obtain ⟨fT, Mw, H⟩ := bd H
  refine tC H ?_ ?_ <;> clear H <;> intro mi H <;> subst mi
  obtain rfl := Option.some.inj H
  repeat clear H
  have Z16 := cz2 a6
  obtain ⟨pF, vA, vG, vB, vH, uK, oR, qS, qT, rP, rL, vT, vS, F7, FB⟩ := aT56 cU HB kW
  cases uK
  have js := trivial
  have yp := trivial
  rotate_left
  have H' := am H
  repeat clear H
  have Z17 := cz2 a6
  obtain ⟨pF, vA, vG, vB, vH, uK, oR, qS, qT, rP, rL, vT, vS, F7, FB⟩ := aT56 cU HB kW
  cases uK
  have js := trivial
  have yq := trivial
  rotate_left
  obtain rfl := Option.some.inj H
  repeat clear H
  have Z18 := cz2 a6
  rotate_left
  all_goals
   go_wp2_with (first | (go_at_call 80; revert yo; intro yo; revert A9; intro A9; refine cM (dO.calls k1 _ _ l2 ((aA aN kW).f0) true _ (pB EE) zZ.1 A9.out) ?_; rintro w' ⟨nd, rfl⟩; (try exact dR); clear A9) | (go_at_call 80; revert js; intro js; revert A9; intro A9; refine cM (dO.calls k1 _ _ l2 ((aA aN kW).f0) false _ (pB EE) zZ.1 A9.out) ?_; rintro w' ⟨nd, rfl⟩; (try exact dR); obtain ⟨kD, r7, r9, r8, rA, tZ, nE, nF, nH, mZ, pK, pL, tU, HZ, I2⟩ := aT56 cU HB kW; obtain rfl : pF = kD := (by injection tZ); obtain ⟨ea_, ec_⟩ := eZ2 qS nF; subst ea_; subst ec_; obtain ⟨ea_, ec_⟩ := eZ2 qT nH; subst ea_; subst ec_; obtain ⟨wH, ES, F0, ET, F1, F3, sQ, o8, o9, sO, zU, mQ, qN, UX, P4⟩ := aT56 cU HB a1; obtain rfl : pF = wH := (by injection F3); clear A9) | (go_at_call 72; revert yp; intro yp; revert Mw; intro Mw; refine cM (fF.calls k1 _ _ ((aA aN kW).f1) _ _ ((aA aN a1).f2) true _ (pC (Kd.aX mZ.1 eE)) pK.1 (pC (Kd.aX mQ.1 eE)) qN.1 Mw.out) ?_; rintro w' ⟨nd, rfl⟩; (try exact dR); clear Mw) | (go_at_call 72; revert yq; intro yq; revert Mw; intro Mw; refine cM (fF.calls k1 _ _ ((aA aN kW).f1) _ _ ((aA aN a1).f2) false _ (pC (Kd.aX mZ.1 eE)) pK.1 (pC (Kd.aX mQ.1 eE)) qN.1 Mw.out) ?_; rintro w' ⟨nd, rfl⟩; (try exact dR); clear Mw))
  ·repeat (go_quiet (fail); try go_wp2)
   go_roundg k1
   case measure => have := HK1.out; omega
   case rel => exact ⟨(wrap64 (kW + 1)), dM, H', ⟨by have := HK1.out; omega⟩, ⟨rB a6.1⟩, ⟨eE⟩⟩
  ·repeat (go_quiet (first | (go_at_call 80; refine cM (dO.calls k1 _ _ l2 ((aA aN kW).f0) true _ (pB EE) zZ.1 A9.out) ?_; rintro w' ⟨nd, rfl⟩; (try exact dR))); try go_wp2_with (first | (go_at_call 80; refine cM (dO.calls k1 _ _ l2 ((aA aN kW).f0) true _ (pB EE) zZ.1 A9.out) ?_; rintro w' ⟨nd, rfl⟩; (try exact dR))))
   go_roundg k1
   case measure => have := HK1.out; omega
   case rel => exact ⟨(wrap64 (kW + 1)), dM, H', ⟨by have := HK1.out; omega⟩, ⟨rB a6.1⟩, ⟨eE⟩⟩
  ·repeat (go_quiet (first | (go_at_call 80; refine cM (dO.calls k1 _ _ l2 ((aA aN kW).f0) false _ (pB EE) zZ.1 A9.out) ?_; rintro w' ⟨nd, rfl⟩; (try exact dR); obtain ⟨kD, r7, r9, r8, rA, tZ, nE, nF, nH, mZ, pK, pL, tU, HZ, I2⟩ := aT56 cU HB kW; obtain rfl : pF = kD := (by injection tZ); have ea_ := Option.some.inj (qS.symm.trans nF); injection ea_ with ea_ en_ ec_; subst ea_; subst ec_; clear en_; have ea_ := Option.some.inj (qT.symm.trans nH); injection ea_ with ea_ en_ ec_; subst ea_; subst ec_; clear en_; obtain ⟨wH, ES, F0, ET, F1, F3, sQ, o8, o9, sO, zU, mQ, qN, UX, P4⟩ := aT56 cU HB a1; obtain rfl : pF = wH := (by injection F3)) | (go_at_call 72; refine cM (fF.calls k1 _ _ ((aA aN kW).f1) _ _ ((aA aN a1).f2) true _ (pC (Kd.aX mZ.1 eE)) pK.1 (pC (Kd.aX mQ.1 eE)) qN.1 Mw.out) ?_; rintro w' ⟨nd, rfl⟩; (try exact dR))); try go_wp2_with (first | (go_at_call 80; refine cM (dO.calls k1 _ _ l2 ((aA aN kW).f0) false _ (pB EE) zZ.1 A9.out) ?_; rintro w' ⟨nd, rfl⟩; (try exact dR); obtain ⟨kD, r7, r9, r8, rA, tZ, nE, nF, nH, mZ, pK, pL, tU, HZ, I2⟩ := aT56 cU HB kW; obtain rfl : pF = kD := (by injection tZ); have ea_ := Option.some.inj (qS.symm.trans nF); injection ea_ with ea_ en_ ec_; subst ea_; subst ec_; clear en_; have ea_ := Option.some.inj (qT.symm.trans nH); injection ea_ with ea_ en_ ec_; subst ea_; subst ec_; clear en_; obtain ⟨wH, ES, F0, ET, F1, F3, sQ, o8, o9, sO, zU, mQ, qN, UX, P4⟩ := aT56 cU HB a1; obtain rfl : pF = wH := (by injection F3)) | (go_at_call 72; refine cM (fF.calls k1 _ _ ((aA aN kW).f1) _ _ ((aA aN a1).f2) true _ (pC (Kd.aX mZ.1 eE)) pK.1 (pC (Kd.aX mQ.1 eE)) qN.1 Mw.out) ?_; rintro w' ⟨nd, rfl⟩; (try exact dR))))
   go_ret
   exact ⟨eR, eE⟩
  ·repeat (go_quiet (first | (go_at_call 80; refine cM (dO.calls k1 _ _ l2 ((aA aN kW).f0) false _ (pB EE) zZ.1 A9.out) ?_; rintro w' ⟨nd, rfl⟩; (try exact dR); obtain ⟨kD, r7, r9, r8, rA, tZ, nE, nF, nH, mZ, pK, pL, tU, HZ, I2⟩ := aT56 cU HB kW; obtain rfl : pF = kD := (by injection tZ); have ea_ := Option.some.inj (qS.symm.trans nF); injection ea_ with ea_ en_ ec_; subst ea_; subst ec_; clear en_; have ea_ := Option.some.inj (qT.symm.trans nH); injection ea_ with ea_ en_ ec_; subst ea_; subst ec_; clear en_; obtain ⟨wH, ES, F0, ET, F1, F3, sQ, o8, o9, sO, zU, mQ, qN, UX, P4⟩ := aT56 cU HB a1; obtain rfl : pF = wH := (by injection F3)) | (go_at_call 72; refine cM (fF.calls k1 _ _ ((aA aN kW).f1) _ _ ((aA aN a1).f2) false _ (pC (Kd.aX mZ.1 eE)) pK.1 (pC (Kd.aX mQ.1 eE)) qN.1 Mw.out) ?_; rintro w' ⟨nd, rfl⟩; (try exact dR))); try go_wp2_with (first | (go_at_call 80; refine cM (dO.calls k1 _ _ l2 ((aA aN kW).f0) false _ (pB EE) zZ.1 A9.out) ?_; rintro w' ⟨nd, rfl⟩; (try exact dR); obtain ⟨kD, r7, r9, r8, rA, tZ, nE, nF, nH, mZ, pK, pL, tU, HZ, I2⟩ := aT56 cU HB kW; obtain rfl : pF = kD := (by injection tZ); have ea_ := Option.some.inj (qS.symm.trans nF); injection ea_ with ea_ en_ ec_; subst ea_; subst ec_; clear en_; have ea_ := Option.some.inj (qT.symm.trans nH); injection ea_ with ea_ en_ ec_; subst ea_; subst ec_; clear en_; obtain ⟨wH, ES, F0, ET, F1, F3, sQ, o8, o9, sO, zU, mQ, qN, UX, P4⟩ := aT56 cU HB a1; obtain rfl : pF = wH := (by injection F3)) | (go_at_call 72; refine cM (fF.calls k1 _ _ ((aA aN kW).f1) _ _ ((aA aN a1).f2) false _ (pC (Kd.aX mZ.1 eE)) pK.1 (pC (Kd.aX mQ.1 eE)) qN.1 Mw.out) ?_; rintro w' ⟨nd, rfl⟩; (try exact dR))))
   go_roundg k1
   case measure => have := HK1.out; omega
   case rel => exact ⟨(wrap64 (kW + 1)), dM, H', ⟨by have := HK1.out; omega⟩, ⟨rB a6.1⟩, ⟨eE⟩⟩
  ·repeat (go_quiet (fail); try go_wp2)
   go_ret
   exact ⟨eR, eE⟩
def jG.l0 : Nat → List ByteArray → Int → List ByteArray → List (S56) → Option (Int)
 | 0, _, _, _, _ => none
 | k + 1, c, a, d, b => if a < (b.length : Int) then (if 0 ≤ a then ((dO.f k c ((aA b a).f0)).bind fun e => (if e = true then (jG.l0 k c (wrap64 (a + 1)) d b) else ((jS.f k d b a c).bind fun g => (if g = true then (some a) else (jG.l0 k c (wrap64 (a + 1)) d b))))) else (none)) else (some (-1))
def jG.f (k : Nat) (bF : List ByteArray) (aN : List (S56)) (l1 : List ByteArray) : Option (Int) := jG.l0 k l1 0 bF aN
theorem jG.calls (k : Nat) (eU : Option Addr) (eY : Nat) (bF : List ByteArray) (fG : Option Addr) (eQ : Nat) (aN : List (S56)) (A1 : Option Addr) (c1 : Nat) (l1 : List ByteArray) (r : Int) (w : World) (iG : Kd.C Kd.string w eU bF.length bF) (iD : bF.length ≤ eY) (iC : Kd.C k56 w fG aN.length aN) (iE : aN.length ≤ eQ) (FG : Kd.C Kd.string w A1 l1.length l1) (FF : l1.length ≤ c1) (h : jG.f k bF aN l1 = some r) :
  Calls Try.prog 88 #[.agg #[.slice eU bF.length eY, .slice fG aN.length eQ], .slice A1 l1.length c1] w fun e w' => e = .returned (.int .i64 r) ∧ Below w.heap.size w w' := by
 have hu31 := Try.underlying31
 obtain ⟨dY, dX⟩ := mZ2 iG iD
 obtain ⟨cU, f4⟩ := mZ2 iC iE
 obtain ⟨IL, LA⟩ := mZ2 FG FF
 clear iG iD iC iE FG FF
 have HB := am (Below.refl w.heap.size w)
 unfold jG.f at h
 have H := h
 clear h
 have H' := am H
 repeat clear H
 go_enter Try.func88, Try.ntmps88
 go_wp2_with (first | ((with_reducible refine gD 2 ?_); refine bX 2 #[.slice eU bF.length eY, .slice fG aN.length eQ] 31 ?_; intro aT hg w3 hbox hb; have a6 := am hbox; have g5 := am (oS : w.heap.size ≤ aT); have iJ := g5; replace HB := bS eG hb; clear hb hbox hg))
 go_loopg [5] k (fun kq v5 w' => ∃ (dW : Int), v5 = .int .i64 dW ∧ aC (jG.l0 kq l1 dW bF aN = some r) ∧ aC (kq ≤ k) ∧ aC (w'.heap[aT]? = some (.cells #[(.slice eU bF.length eY), (.slice fG aN.length eQ)] 31 (0, 0))) ∧ aC (Below w.heap.size w w'))
 case atStart => exact ⟨(0), dM, H', ⟨Nat.le_refl _⟩, ⟨rB a6.1⟩, ⟨eE⟩⟩
 clear H'
 try clear c1
 obtain ⟨dW, rfl, HA, HK1, a6, HB⟩ := hrel
 cases gk with
 | zero => exact absurd HA.out (by simp [jG.l0])
 | succ k1 =>
  have H := HA.out
  clear HA
  simp only [jG.l0] at H
  refine ic H ?_ ?_ <;> clear H <;> intro yF H
  ·obtain ⟨IP, H⟩ := cN H
   obtain ⟨eF, A6, H⟩ := bd H
   refine tC H ?_ ?_ <;> clear H <;> intro c7 H <;> subst c7
   ·have H' := am H
    repeat clear H
    have Z8 := cz2 a6
    obtain ⟨pF, vA, vG, vB, vH, uK, oR, qS, qT, rP, rL, vT, vS, F7, FB⟩ := aT56 cU HB dW
    cases uK
    go_wp2_with (first | ((with_reducible refine gC 80 ?_); refine cQ (some 20) Try.func80 (dO.calls k1 _ _ l1 ((aA aN dW).f0) true _ (pB IL) LA.1 A6.out) ?_; rintro w' ⟨nd, rfl⟩))
    go_roundg k1
    case measure => have := HK1.out; omega
    case rel => exact ⟨(wrap64 (dW + 1)), dM, H', ⟨by have := HK1.out; omega⟩, ⟨rB a6.1⟩, ⟨eE⟩⟩
   ·obtain ⟨dC, A9, H⟩ := bd H
    refine tC H ?_ ?_ <;> clear H <;> intro Ba H <;> subst Ba
    ·obtain rfl := Option.some.inj H
     repeat clear H
     have Uq := cz2 a6
     obtain ⟨pF, vA, vG, vB, vH, uK, oR, qS, qT, rP, rL, vT, vS, F7, FB⟩ := aT56 cU HB dW
     cases uK
     go_wp2_with (first | ((with_reducible refine gC 80 ?_); refine cQ (some 20) Try.func80 (dO.calls k1 _ _ l1 ((aA aN dW).f0) false _ (pB IL) LA.1 A6.out) ?_; rintro w' ⟨nd, rfl⟩) | (go_at_call 83; refine cM (jS.calls k1 _ _ bF _ _ aN dW _ _ l1 true _ (pC (Kd.aX dY.1 eE)) dX.1 (pC (Kd.aX cU.1 eE)) f4.1 (pC (Kd.aX IL.1 eE)) LA.1 A9.out) ?_; rintro w12 hb; replace a6 := bB aW hb; replace HB := bS eE hb; clear hb))
     go_ret
     exact ⟨eR, eE⟩
    ·have H' := am H
     repeat clear H
     have La := cz2 a6
     obtain ⟨pF, vA, vG, vB, vH, uK, oR, qS, qT, rP, rL, vT, vS, F7, FB⟩ := aT56 cU HB dW
     cases uK
     go_wp2_with (first | ((with_reducible refine gC 80 ?_); refine cQ (some 20) Try.func80 (dO.calls k1 _ _ l1 ((aA aN dW).f0) false _ (pB IL) LA.1 A6.out) ?_; rintro w' ⟨nd, rfl⟩) | (go_at_call 83; refine cM (jS.calls k1 _ _ bF _ _ aN dW _ _ l1 false _ (pC (Kd.aX dY.1 eE)) dX.1 (pC (Kd.aX cU.1 eE)) f4.1 (pC (Kd.aX IL.1 eE)) LA.1 A9.out) ?_; rintro vx hb; replace a6 := bB aW hb; replace HB := bS eE hb; clear hb))
     go_roundg k1
     case measure => have := HK1.out; omega
     case rel => exact ⟨(wrap64 (dW + 1)), dM, H', ⟨by have := HK1.out; omega⟩, ⟨rB a6.1⟩, ⟨eE⟩⟩
  ·obtain rfl := Option.some.inj H
   repeat clear H
   have Z15 := cz2 a6
   go_wp2
   go_ret
   exact ⟨eR, eE⟩
def gK.l0 : Nat → List ByteArray → List ByteArray → List (S56) → Option (List ByteArray × Bool)
 | 0, _, _, _ => none
 | k + 1, a, d, b => if (a.length : Int) < (b.length : Int) then ((jG.f k d b a).bind fun c => (if c < 0 then (some ((([] : List ByteArray)), false)) else (if 0 ≤ c then (if c < (b.length : Int) then (if a.length < 8796093022208 then (gK.l0 k (a ++ [(aA b c).f0]) d b) else (none)) else (none)) else (none)))) else (some (a, true))
def gK.f (k : Nat) (bF : List ByteArray) (aN : List (S56)) : Option (List ByteArray × Bool) := (some (([] : List ByteArray) : List ByteArray)).bind fun a => ((aK.f k bF aN).bind fun b => (if b = true then (gK.l0 k a bF aN) else (some (a, false))))
theorem gK.calls (k : Nat) (eU : Option Addr) (eY : Nat) (bF : List ByteArray) (fG : Option Addr) (eQ : Nat) (aN : List (S56)) (r1 : List ByteArray) (r2 : Bool) (w : World) (iG : Kd.C Kd.string w eU bF.length bF) (iD : bF.length ≤ eY) (iC : Kd.C k56 w fG aN.length aN) (iE : aN.length ≤ eQ) (h : gK.f k bF aN = some (r1, r2)) :
  Calls Try.prog 44 #[.agg #[.slice eU bF.length eY, .slice fG aN.length eQ]] w fun e w' => ∃ v0_ : Value, e = .returned (.tuple #[v0_, .bool r2]) ∧ Kd.R Kd.string 9 w' w.heap.size (fun _ => True) v0_ r1 ∧ Below w.heap.size w w' := by
 have hu31 := Try.underlying31
 obtain ⟨dY, dX⟩ := mZ2 iG iD
 obtain ⟨cU, f4⟩ := mZ2 iC iE
 clear iG iD iC iE
 have HB := am (Below.refl w.heap.size w)
 unfold gK.f at h
 have H := h
 clear h
 obtain ⟨uj, hy102⟩ : ∃ y_ : List ByteArray, y_ = (([] : List ByteArray)) := ⟨_, rfl⟩
 replace H : ((aK.f k bF aN).bind fun oH => (if oH = true then (gK.l0 k uj bF aN) else (some (uj, false)))) = some (r1, r2) := by first | (rw [hy102]; with_reducible exact H) | (have H2_ := (Option.bind_some _ _).symm.trans H; rw [hy102]; with_reducible exact H2_) | (have H2_ := (Option.bind_some _ _).symm.trans H; with_reducible exact H2_) | with_reducible exact H | (rw [hy102]; exact H) | exact H
 have aw := am hy102
 clear hy102
 obtain ⟨oH, A2, H⟩ := bd H
 refine tC H ?_ ?_ <;> clear H <;> intro c3 H <;> subst c3
 ·have H' := am H
  repeat clear H
  go_enter Try.func44, Try.ntmps44
  go_wp2_with (first | ((with_reducible refine gD 1 ?_); refine bX 1 #[.slice eU bF.length eY, .slice fG aN.length eQ] 31 ?_; intro aT hg w4 hbox hb; have a6 := am hbox; have g5 := am (oS : w.heap.size ≤ aT); have iJ := g5; replace HB := bS eG hb; clear hb hbox hg) | ((with_reducible refine jW (N := 6) rfl ?_); refine lS 9 6 aw ?_; intro Ab w5 ho6 hb; have lM := am (Kd.d9 ho6 (aG eE)); replace a6 := bB aW hb; replace HB := bS eE hb; clear hb ho6; have Z7 := cz2 a6) | ((with_reducible refine gC 22 ?_); refine cQ (some 8) Try.func22 (aK.calls k _ _ bF _ _ aN true _ (pB dY) dX.1 (pB cU) f4.1 A2.out) ?_; rintro w8 hb; replace lM := RB RC hb; replace a6 := bB aW hb; replace HB := bS eE hb; clear hb))
  go_loopg [4] k (fun kq v4 w' => ∃ (mU : List ByteArray), aC (gK.l0 kq mU bF aN = some (r1, r2)) ∧ aC (kq ≤ k) ∧ aC (Kd.R Kd.string 9 w' w.heap.size (fun _ => True) v4 mU) ∧ aC (w'.heap[aT]? = some (.cells #[(.slice eU bF.length eY), (.slice fG aN.length eQ)] 31 (0, 0))) ∧ aC (Below w.heap.size w w'))
  case atStart => exact ⟨(uj), H', ⟨Nat.le_refl _⟩, ⟨rR lM.1⟩, ⟨rB a6.1⟩, ⟨eE⟩⟩
  clear H'
  try clear c3
  try clear Z7
  obtain ⟨mU, HA, HK1, m6, a6, HB⟩ := hrel
  cases gk with
  | zero => exact absurd HA.out (by simp [gK.l0])
  | succ k1 =>
   have H := HA.out
   clear HA
   simp only [gK.l0] at H
   by_cases c9 : (mU.length : Int) < (aN.length : Int)
   ·rw [if_pos c9] at H
    have PV : decide ((mU.length : Int) < (aN.length : Int)) = true := decide_eq_true c9
    have Qx : decide (mU.length < aN.length) = true := decide_eq_true (Int.ofNat_lt.mp c9)
    clear c9
    obtain ⟨fT, um, H⟩ := bd H
    refine ic H ?_ ?_ <;> clear H <;> intro NM H
    ·obtain ⟨VD, hy107⟩ : ∃ y_ : List ByteArray, y_ = (([] : List ByteArray)) := ⟨_, rfl⟩
     replace H : (some (VD, false)) = some (r1, r2) := by first | (rw [hy107]; with_reducible exact H) | (have H2_ := (Option.bind_some _ _).symm.trans H; rw [hy107]; with_reducible exact H2_) | (have H2_ := (Option.bind_some _ _).symm.trans H; with_reducible exact H2_) | with_reducible exact H | (rw [hy107]; exact H) | exact H
     have NH := am hy107
     clear hy107
     obtain ⟨rfl, rfl⟩ := sZ2 H
     repeat clear H
     obtain ⟨j5, iX, Rm⟩ := Kd.bP m6.1
     subst Rm
     have La := cz2 a6
     go_wp2_with (first | ((with_reducible refine gC 88 ?_); refine cQ (some 19) Try.func88 (jG.calls k1 _ _ bF _ _ aN _ _ mU fT _ (pB dY) dX.1 (pB cU) f4.1 (pC (Kd.aU m6.1).2.2) ((Kd.aU m6.1).2.1) um.out) ?_; rintro vx hb; replace m6 := RB GB hb; replace a6 := bB aW hb; replace HB := bS eE hb; clear hb) | ((with_reducible refine jW (N := 22) rfl ?_); refine lS 9 22 NH ?_; intro IV w15 qq hb; have fU := am (Kd.d9 (Kd.fA qq (Kd.R_lt GB)) (aG eE)); replace m6 := am (Kd.dS GB (Kd.bZ qq) hb); replace a6 := bB aW hb; replace HB := bS eE hb; clear hb qq))
     go_ret2
     exact ⟨_, eR, by refine rR ?_; exact Kd.aM fU.1 (fun _ hk => trivial), eE⟩
    ·obtain ⟨Qt, H⟩ := cN H
     obtain ⟨CS, H⟩ := cN H
     obtain ⟨Om, H⟩ := cL H
     obtain ⟨aHN, Pc⟩ := yv (mU ++ [(aA aN fT).f0]); first | replace H := bW Pc H | rw [← Pc.1] at H
     have H' := am H
     repeat clear H
     obtain ⟨xE, nY, Y7⟩ := Kd.bP m6.1
     subst Y7
     have Z21 := cz2 a6
     go_wp2_with (first | ((with_reducible refine gC 88 ?_); refine cQ (some 19) Try.func88 (jG.calls k1 _ _ bF _ _ aN _ _ mU fT _ (pB dY) dX.1 (pB cU) f4.1 (pC (Kd.aU m6.1).2.2) ((Kd.aU m6.1).2.1) um.out) ?_; rintro Ux hb; replace m6 := RB GB hb; replace a6 := bB aW hb; replace HB := bS eE hb; clear hb; have Z23 := cz2 a6; obtain ⟨Im, Nc, Qk, Nd, Ql, Rc, SQ, KS, KT, S7, Gy, K7, S3, a3O, a4A⟩ := aT56 cU HB fT; cases Rc) | ((with_reducible refine o7 (b := .append) (xs := #[.tmp 23, .tmp 30]) rfl ?_); at_builtin; refine Kd.AC Kd.string (w0 := w) w.heap.size rfl (.tmp 23) (.tmp 30) 23 9 (.string ⟨#[]⟩) 16 rfl Try.underlying23 rY rfl (by decide) (by omega) (.slice xE mU.length nY) mU ((aA aN fT).f0) [.string ((aA aN fT).f0)] (fun _ => True) (fun _ => False) rfl rfl ?aP (fun _ hk => hk.elim) ?aF ?aO ?aB ?aS ?aL ?_; (case aP => exact rfl); (case aB => exact eE); (case aF => exact (fun _ _ => trivial)); (case aO => exact GB); (case aS => exact (aG eE)); (case aL => have := Om.out; omega); intro a4Q w24 ho hb hg hat; rw [← Pc.out] at ho; replace a6 := gkR aW hg m6 a6; replace HB := am hb; have He := am ho; clear m6; clear ho hb hg hat))
     go_roundg k1
     case measure => have := HK1.out; omega
     case rel => exact ⟨(aHN), H', ⟨by have := HK1.out; omega⟩, ⟨rR He.1⟩, ⟨rB a6.1⟩, ⟨eE⟩⟩
   ·rw [if_neg c9] at H
    have PV : decide ((mU.length : Int) < (aN.length : Int)) = false := decide_eq_false c9
    have Qx : decide (mU.length < aN.length) = false := decide_eq_false (fun h => c9 (Int.ofNat_lt.mpr h))
    clear c9
    obtain ⟨rfl, rfl⟩ := sZ2 H
    repeat clear H
    obtain ⟨FL, CW, Lo⟩ := Kd.bP m6.1
    subst Lo
    have Z26 := cz2 a6
    go_wp2
    go_ret2
    exact ⟨_, eR, rR m6.1, eE⟩
 obtain ⟨rfl, rfl⟩ := sZ2 H
 repeat clear H
 go_enter Try.func44, Try.ntmps44
 go_wp2_with (first | ((with_reducible refine gD 1 ?_); refine bX 1 #[.slice eU bF.length eY, .slice fG aN.length eQ] 31 ?_; intro aT hg w27 hbox hb; have a6 := am hbox; have g5 := am (oS : w.heap.size ≤ aT); have iJ := g5; replace HB := bS eG hb; clear hb hbox hg) | ((with_reducible refine jW (N := 6) rfl ?_); refine lS 9 6 aw ?_; intro Ab w28 a3I hb; have lM := am (Kd.d9 a3I (aG eE)); replace a6 := bB aW hb; replace HB := bS eE hb; clear hb a3I; have Z30 := cz2 a6) | ((with_reducible refine gC 22 ?_); refine cQ (some 8) Try.func22 (aK.calls k _ _ bF _ _ aN false _ (pB dY) dX.1 (pB cU) f4.1 A2.out) ?_; rintro vz hb; replace lM := RB RC hb; replace a6 := bB aW hb; replace HB := bS eE hb; clear hb))
 go_ret2
 exact ⟨_, eR, rR lM.1, eE⟩
def lW.f (k : Nat) (bF : List ByteArray) (aN : List (S56)) : Option (Bool) := (gK.f k bF aN).bind fun a => (some a.2)
theorem lW.calls (k : Nat) (eU : Option Addr) (eY : Nat) (bF : List ByteArray) (fG : Option Addr) (eQ : Nat) (aN : List (S56)) (r : Bool) (w : World) (iG : Kd.C Kd.string w eU bF.length bF) (iD : bF.length ≤ eY) (iC : Kd.C k56 w fG aN.length aN) (iE : aN.length ≤ eQ) (h : lW.f k bF aN = some r) :
  Calls Try.prog 35 #[.agg #[.slice eU bF.length eY, .slice fG aN.length eQ]] w fun e w' => e = .returned (.bool r) ∧ Below w.heap.size w w' := by
 have hu31 := Try.underlying31
 obtain ⟨dY, dX⟩ := mZ2 iG iD
 obtain ⟨cU, f4⟩ := mZ2 iC iE
 clear iG iD iC iE
 have HB := am (Below.refl w.heap.size w)
 unfold lW.f at h
 have H := h
 clear h
 obtain ⟨⟨lD, oH⟩, A2, H⟩ := bd H
 dsimp only at H
 obtain rfl := Option.some.inj H
 repeat clear H
 go_enter Try.func35, Try.ntmps35
 go_wp2_with (first | ((with_reducible refine gD 1 ?_); refine bX 1 #[.slice eU bF.length eY, .slice fG aN.length eQ] 31 ?_; intro aT hg w3 hbox hb; have a6 := am hbox; have g5 := am (oS : w.heap.size ≤ aT); have iJ := g5; replace HB := bS eG hb; clear hb hbox hg; have Z4 := cz2 a6) | ((with_reducible refine gC 44 ?_); refine cE (some 7) Try.func44 (gK.calls k _ _ bF _ _ aN lD oH _ (pB dY) dX.1 (pB cU) f4.1 A2.out) ?_; rintro e w5 ⟨Ab, rfl, f3, hb⟩; refine ⟨_, rfl, ?_⟩; have lM := am (Kd.d9 f3 (aG eE)); replace a6 := bB aW hb; replace HB := bS eE hb; clear hb f3))
 go_ret
 exact ⟨eR, eE⟩
def D7 (P : Nat → Bool) (n i : Nat) : Option Nat := (List.range' i (n - i)).find? P
theorem PY (P : Nat → Bool) (n : Nat) : D7 P n n = none := by simp [D7]
theorem MJ (P : Nat → Bool) {n i : Nat} (h : i < n) : D7 P n i = if P i = true then some i else D7 P n (i + 1) := by
 unfold D7; rw [show n - i = (n - (i + 1)) + 1 by omega, List.range'_succ, List.find?_cons]
 cases P i <;> rfl
def canP (bs : List IB) (at_ : Nat) (gone : List ByteArray) (q : Nat) : Bool := decide (q = at_) || (hasS gone (gB bs q).f0 || !pQ (gB bs q).f1 (gB bs at_).f2)
def canB (bs : List IB) (at_ : Nat) (gone : List ByteArray) : Bool := allR (canP bs at_ gone) bs.length 0
theorem V5 (ts : List ByteArray) (bs : List IB) (at_ : Nat) (gone : List ByteArray) (hl : bs.length ≤ 9223372036854775807) (hb : Bok bs) (ha : at_ < bs.length) (hg : gone.length ≤ 9223372036854775807) : Ev (fun k => jS.f k ts bs (at_ : Int) gone) (canB bs at_ gone) := by
 unfold jS.f
 have b0 := hb.at_ ha
 refine Ev.loop (f := fun k i => jS.l0 k (at_ : Int) gone (i : Int) ts bs) (val := allR (canP bs at_ gone) bs.length) bs.length ?_ ?_ 0 (by omega)
 ·rw [CQ]
  refine Ev.step (fun k => jS.l0.eq_2 _ gone _ ts bs k) ?_
  exact Ev.neg (by omega) (Ev.ret rfl)
 intro i hi H
 rw [zF _ hi]
 refine Ev.step (fun k => jS.l0.eq_2 _ gone _ ts bs k) ?_
 refine Ev.pos (by omega) ?_
 rw [jZ hi hl, jF, jF]
 have bi := hb.at_ hi
 refine Ev.prop (fun h => Ev.sub H (by simp [canP, show i = at_ by omega])) (fun h => Ev.pos (by omega) (Ev.bind (qB gone _ hg) ?_))
 have hne : decide (i = at_) = false := decide_eq_false (by omega)
 refine Ev.test _ (fun h1 => Ev.sub H (by simp [canP, h1])) (fun h1 => Ev.pos (by omega) (Ev.pos (by omega) (Ev.bind (BC _ _ bi.1 b0.2) ?_)))
 refine Ev.test _ (fun h2 => Ev.ret (by simp [canP, h1, h2, hne])) (fun h2 => Ev.sub H (by simp [canP, h2]))
theorem Cc (ts : List ByteArray) (bs : List IB) (at_ : Nat) (gone : List ByteArray) (hl : bs.length ≤ 9223372036854775807) (ha : at_ < bs.length) (hg : gone.length ≤ 9223372036854775807) : Ev (fun k => bT.f k ts bs (at_ : Int) gone) (canB bs at_ gone) := by
 unfold bT.f
 refine Ev.loop (f := fun k i => bT.l0 k (at_ : Int) gone bs (bs.length : Int) (i : Int) ts bs) (val := allR (canP bs at_ gone) bs.length) bs.length ?_ ?_ 0 (by omega)
 ·rw [CQ]
  refine Ev.step (fun k => bT.l0.eq_2 _ gone bs _ _ ts bs k) ?_
  exact Ev.neg (by omega) (Ev.ret rfl)
 intro i hi H
 rw [zF _ hi]
 refine Ev.step (fun k => bT.l0.eq_2 _ gone bs _ _ ts bs k) ?_
 refine Ev.pos (by omega) (Ev.pos (by omega) (Ev.pos (by omega) ?_))
 rw [jZ hi hl, jF, jF]
 refine Ev.prop (fun h => Ev.sub H (by simp [canP, show i = at_ by omega])) (fun h => Ev.bind (EH gone _ hg) ?_)
 have hne : decide (i = at_) = false := decide_eq_false (by omega)
 refine Ev.test _ (fun h1 => Ev.sub H (by simp [canP, h1])) (fun h1 => Ev.pos (by omega) (Ev.pos (by omega) ?_))
 simp only [q9.f, Option.bind_some]
 refine Ev.test _ (fun h2 => Ev.ret (by simp [canP, h1, hne, show pQ (gB bs i).f1 (gB bs at_).f2 = true from h2])) (fun h2 => Ev.sub H (by simp [canP, show pQ (gB bs i).f1 (gB bs at_).f2 = false from h2]))
theorem KH {ts : List ByteArray} {bs : List IB} (h : rU ts bs = true) : bs.length ≤ 5 := by
 unfold rU at h; simp only [Bool.and_eq_true, decide_eq_true_eq] at h; exact h.2.1
def G6 (bs : List IB) (gone : List ByteArray) (i : Nat) : Bool := !hasS gone (gB bs i).f0 && canB bs i gone
def R8 (bs : List IB) (gone : List ByteArray) : Option Nat := D7 (G6 bs gone) bs.length 0
def yK (bs : List IB) : Nat → List ByteArray → List ByteArray × Bool
  | 0, gone => (gone, true)
  | d + 1, gone => match R8 bs gone with
    | none => ([], false)
    | some i => yK bs d (gone ++ [(gB bs i).f0])
def Q5 (ts : List ByteArray) (bs : List IB) : List ByteArray × Bool := if rU ts bs = true then yK bs bs.length [] else ([], false)
theorem TY {P : Nat → Bool} {n i j : Nat} (h : D7 P n i = some j) : i ≤ j ∧ j < n ∧ P j = true := by
 unfold D7 at h
 have h1 := List.find?_some h
 have h2 := List.mem_of_find?_eq_some h
 rw [List.mem_range'_1] at h2
 exact ⟨by omega, by omega, h1⟩
theorem UF (ts : List ByteArray) (bs : List IB) (gone : List ByteArray) (hl : bs.length ≤ 9223372036854775807) (hb : Bok bs) (hg : gone.length ≤ 9223372036854775807) : Ev (fun k => jG.f k ts bs gone) (((R8 bs gone).map fun (i : Nat) => (i : Int)).getD (-1)) := by
 unfold jG.f R8
 refine Ev.loop (f := fun k i => jG.l0 k gone (i : Int) ts bs) (val := fun i => ((D7 (G6 bs gone) bs.length i).map fun (i : Nat) => (i : Int)).getD (-1)) bs.length ?_ ?_ 0 (by omega)
 ·refine Ev.step (fun k => jG.l0.eq_2 gone _ ts bs k) (Ev.neg (by omega) (Ev.ret (by simp [PY])))
 intro i hi H
 simp only [MJ (G6 bs gone) hi]
 refine Ev.step (fun k => jG.l0.eq_2 gone _ ts bs k) (Ev.pos (by omega) (Ev.pos (by omega) (Ev.bind (qB gone _ hg) ?_)))
 rw [jF, jZ hi hl]
 refine Ev.test _ (fun h => Ev.sub H (by simp [G6, h])) (fun h => Ev.bind (V5 ts bs i gone hl hb hi hg) ?_)
 refine Ev.test _ (fun h2 => Ev.ret (by simp [G6, h, h2])) (fun h2 => Ev.sub H (by simp [G6, h2]))
theorem MU (ts : List ByteArray) (bs : List IB) (ht : ts.length ≤ 9223372036854775807) (hl : bs.length ≤ 9223372036854775807) (hb : Bok bs) : Ev (fun k => gK.f k ts bs) (Q5 ts bs) := by
 unfold gK.f Q5
 simp only [Option.bind_some]
 refine Ev.bind (pJ ts bs ht hl hb) (Ev.test _ (fun h => ?_) (fun h => Ev.ret (by simp [h])))
 have h5 := KH h
 rw [if_pos h]
 have go : ∀ (d : Nat) (x : List ByteArray), x.length + d = bs.length → Ev (fun k => gK.l0 k x ts bs) (yK bs d x) := by
  intro d
  induction d with
  | zero =>
   intro x hx
   exact Ev.step (fun k => gK.l0.eq_2 x ts bs k) (Ev.neg (by omega) (Ev.ret rfl))
  | succ d ih =>
   intro x hx
   refine Ev.step (fun k => gK.l0.eq_2 x ts bs k) (Ev.pos (by omega) (Ev.bind (UF ts bs x hl hb (by omega)) ?_))
   unfold yK
   cases hn : R8 bs x with
   | none => exact Ev.pos (by simp) (Ev.ret rfl)
   | some i =>
    have hi := (TY hn).2.1
    simp only [Option.map_some, Option.getD_some]
    refine Ev.neg (by omega) (Ev.pos (by omega) (Ev.pos (by omega) (Ev.pos (by omega) ?_)))
    rw [jF]
    exact ih _ (by simp; omega)
 exact go bs.length [] (by simp)
theorem MP (ts : List ByteArray) (bs : List IB) (ht : ts.length ≤ 9223372036854775807) (hl : bs.length ≤ 9223372036854775807) (hb : Bok bs) : Ev (fun k => dV.f k ts bs) (Q5 ts bs) := by
 unfold dV.f Q5
 refine Ev.bind (sS ts bs ht hl hb) (Ev.test _ (fun h => ?_) (fun h => Ev.ret (by simp [h])))
 have h5 := KH h
 rw [if_pos h]
 have go : ∀ (d : Nat) (x : List ByteArray), x.length + d = bs.length → Ev (fun k => dV.l0 k x ts bs) (yK bs d x) := by
   intro d
   induction d with
   | zero =>
     intro x hx
     exact Ev.step (fun k => dV.l0.eq_2 x ts bs k) (Ev.neg (by omega) (Ev.ret rfl))
   | succ d ih =>
     intro x hx
     refine Ev.step (fun k => dV.l0.eq_2 x ts bs k) (Ev.pos (by omega) ?_)
     unfold yK R8
     refine Ev.loop (f := fun k i => dV.l1 k x (x.length : Int) bs (bs.length : Int) (i : Int) ts bs)
       (val := fun i => match D7 (G6 bs x) bs.length i with | none => ([], false) | some i => yK bs d (x ++ [(gB bs i).f0])) bs.length ?_ ?_ 0 (by omega)
     · simp only [PY]
       exact Ev.step (fun k => dV.l1.eq_2 x _ bs _ _ ts bs k) (Ev.neg (by omega) (Ev.pos rfl (Ev.ret rfl)))
     · intro i hi H
       simp only [MJ (G6 bs x) hi]
       refine Ev.step (fun k => dV.l1.eq_2 x _ bs _ _ ts bs k) (Ev.pos (by omega) (Ev.pos (by omega) (Ev.pos (by omega) (Ev.bind (EH x _ (by omega)) ?_))))
       rw [jF, jZ hi hl]
       refine Ev.test _ (fun h1 => Ev.sub H (by simp [G6, h1])) (fun h1 => Ev.bind (Cc ts bs i x hl hi (by omega)) ?_)
       refine Ev.test _ (fun h2 => Ev.pos (by omega) ?_) (fun h2 => Ev.sub H (by simp [G6, h2]))
       simp only [Option.bind_some]
       refine Ev.neg (by simp; omega) (Ev.sub (ih _ (by simp; omega)) (by simp [G6, h1, h2]))
 exact go bs.length [] (by simp)
def DR (ts : List ByteArray) (bs : List IB) : Bool := (Q5 ts bs).2
theorem EQ (ts : List ByteArray) (bs : List IB) (ht : ts.length ≤ 9223372036854775807) (hl : bs.length ≤ 9223372036854775807) (hb : Bok bs) : Ev (fun k => lW.f k ts bs) (DR ts bs) :=
  Ev.bind (MU ts bs ht hl hb) (Ev.ret rfl)
theorem OM (ts : List ByteArray) (bs : List IB) (ht : ts.length ≤ 9223372036854775807) (hl : bs.length ≤ 9223372036854775807) (hb : Bok bs) : Ev (fun k => gF.f k ts bs) (DR ts bs) :=
  Ev.bind (MP ts bs ht hl hb) (Ev.ret rfl)
def idxI (p : ByteArray → Bool) (l : List IB) (i : Nat) : Int := ((D7 (fun i => p (gB l i).f0) l.length i).map fun (i : Nat) => (i : Int)).getD (-1)
theorem Ca (p : ByteArray → Bool) (l : List IB) : idxI p l l.length = -1 := by unfold idxI; rw [PY]; rfl
theorem WM (p : ByteArray → Bool) {l : List IB} {i : Nat} (h : i < l.length) : idxI p l i = if p (gB l i).f0 = true then (i : Int) else idxI p l (i + 1) := by
 unfold idxI; rw [MJ _ h]; cases p (gB l i).f0 <;> rfl
def za (g : Nat) (lb : Array Value) (p : ByteArray → Bool) (w : World) : Prop :=
 ∀ (W : World) (s : ByteArray) (A1 : Option Addr) (n1 c1 : Nat) (A2 : Option Addr) (n2 c2 : Nat), Below w.heap.size w W → Calls Try.prog g (#[.agg #[.string s, .slice A1 n1 c1, .slice A2 n2 c2]] ++ lb) W fun e w' => e = .returned (.bool (p s)) ∧ Below w.heap.size w w'
set_option maxHeartbeats 2000000 in
theorem U3 (g : Nat) (lb : Array Value) (eg : ∀ args w, (callFunc g args).run Try.prog w = .ok (.enter g args) w) (p : ByteArray → Bool) (A0 : Option Addr) (c0 : Nat) (l0 : List IB) (w : World)
  (sJ : Kd.C k56 w A0 l0.length l0) (hp : za g lb p w) :
  Calls Try.prog 117 #[.slice A0 l0.length c0, .func (.func g) #[] lb] w fun e w' => e = .returned (.int .i64 (idxI p l0 0)) ∧ Below w.heap.size w w' := by
 have hbig := VG sJ
 have tO := am sJ
 clear sJ
 have HP := am hp
 clear hp
 have hu := Try.underlying56
 go_enter Try.func117, Try.ntmps117
 go_wp2
 go_loopg [5, 8] l0.length (fun gg _ s8 wr => ∃ kk : Nat, kk ≤ l0.length ∧ l0.length - kk ≤ gg ∧ s8 = .int .i64 kk ∧ aC (Below w.heap.size w wr) ∧ aC (idxI p l0 0 = idxI p l0 kk))
 case atStart => exact ⟨0, Nat.zero_le _, by omega, rfl, ⟨Below.refl _ w⟩, ⟨rfl⟩⟩
 obtain ⟨kk, hkk, hg, rfl, BW, A⟩ := hrel
 by_cases hlt : kk < l0.length
 ·have hltz : (kk : Int) < (l0.length : Int) := by omega
  have e1 := A.out
  rw [WM p hlt] at e1
  have E1 := am e1
  clear e1
  obtain ⟨ad, A1, c1, A2, c2, rfl, qx, Xw, Nb, _, _, _, _⟩ := zG tO.1 (kk : Int) (by omega) (by omega)
  have hcall := HP.out wr (gB l0 kk).f0 A1 (aA l0 (kk : Int)).f1.length c1 A2 (aA l0 (kk : Int)).f2.length c2 BW.out
  rw [← jF] at hcall E1
  rw [Int.toNat_natCast] at qx Xw Nb
  replace qx := (BW.out.cell (World.block_lt_of_cell? w _ qx)).trans qx
  replace Xw := (BW.out.cell (World.block_lt_of_cell? w _ Xw)).trans Xw
  replace Nb := (BW.out.cell (World.block_lt_of_cell? w _ Nb)).trans Nb
  generalize aA l0 (kk : Int) = y at qx Xw Nb hcall E1
  obtain ⟨y0, y1, y2⟩ := y
  cases hq : p y0 with
  | true =>
   rw [hq] at hcall
   have E2 : aC (idxI p l0 0 = kk) := ⟨by rw [E1.out, if_pos hq]⟩
   clear hq
   go_wp2_with ((go_at_fn g; refine hcall.mono ?_; rintro e w' ⟨rfl, hb'⟩))
   go_ret
   exact ⟨by rw [E2.out]; rfl, hb'⟩
  | false =>
   rw [hq] at hcall
   have E2 : aC (idxI p l0 0 = idxI p l0 (kk + 1)) := ⟨by rw [E1.out, if_neg (by simp [hq])]⟩
   clear hq
   go_wp2_with ((go_at_fn g; refine hcall.mono ?_; rintro e w' ⟨rfl, hb'⟩))
   go_roundg (l0.length - (kk + 1))
   case measure => omega
   case rel => exact ⟨kk + 1, by omega, by omega, by go_num, ⟨hb'⟩, E2⟩
 have hltz : ¬ (kk : Int) < (l0.length : Int) := by omega
 have hk2 : kk = l0.length := by omega
 have E2 : aC (idxI p l0 0 = -1) := ⟨by rw [A.out, hk2, Ca]⟩
 subst hk2
 go_wp2
 go_ret
 exact ⟨by rw [E2.out]; rfl, BW.out⟩
theorem Wt (s n : ByteArray) (A1 : Option Addr) (n1 c1 : Nat) (A2 : Option Addr) (n2 c2 : Nat) (gb : Nat) (W : World) (hg : gb < W.heap.size) (hcell : W.cell? ⟨gb, 0, none⟩ = some (.string n)) :
  Calls Try.prog 118 #[.agg #[.string s, .slice A1 n1 c1, .slice A2 n2 c2], .pointer (some ⟨gb, 0, none⟩)] W fun e w' => e = .returned (.bool (s.toList == n.toList)) ∧ Below W.heap.size W w' := by
 have hu := Try.underlying56
 have hne : gb ≠ W.heap.size := by omega
 go_enter Try.func118, Try.ntmps118
 go_wp2
 go_ret
 exact ⟨rfl, (Below.refl _ _).alloc (Nat.le_refl _) _⟩
def iA.f (bF : List ByteArray) (aN : List IB) (a1 : ByteArray) : Option (Int) := some (idxI (fun s => s.toList == a1.toList) aN 0)
theorem iA.calls (eU : Option Addr) (eY : Nat) (bF : List ByteArray) (fG : Option Addr) (eQ : Nat) (aN : List IB) (a1 : ByteArray) (r : Int) (w : World) (iG : Kd.C Kd.string w eU bF.length bF) (iD : bF.length ≤ eY) (iC : Kd.C k56 w fG aN.length aN) (iE : aN.length ≤ eQ) (h : iA.f bF aN a1 = some r) :
  Calls Try.prog 84 #[.agg #[.slice eU bF.length eY, .slice fG aN.length eQ], .string a1] w fun e w' => e = .returned (.int .i64 r) ∧ Below w.heap.size w w' := by
 obtain rfl := Option.some.inj h
 clear h
 have hu := Try.underlying31
 have HW : aC (Below w.heap.size w ((w.alloc (.cells #[.slice eU bF.length eY, .slice fG aN.length eQ] 31 (0, 0))).alloc (.cells #[.string a1] 9 (0, 0)))) := ⟨((Below.refl _ _).alloc (Nat.le_refl _) _).alloc (by simp) _⟩
 have HC : aC (Calls Try.prog 117 #[.slice fG aN.length eQ, .func (.func 118) #[] #[.pointer (some ⟨w.heap.size + 1, 0, none⟩)]] ((w.alloc (.cells #[.slice eU bF.length eY, .slice fG aN.length eQ] 31 (0, 0))).alloc (.cells #[.string a1] 9 (0, 0))) fun e w' => e = .returned (.int .i64 (idxI (fun s => s.toList == a1.toList) aN 0)) ∧ Below ((w.alloc (.cells #[.slice eU bF.length eY, .slice fG aN.length eQ] 31 (0, 0))).alloc (.cells #[.string a1] 9 (0, 0))).heap.size ((w.alloc (.cells #[.slice eU bF.length eY, .slice fG aN.length eQ] 31 (0, 0))).alloc (.cells #[.string a1] 9 (0, 0))) w') := by
  refine ⟨U3 118 _ (enters_of Try.func118 (by kernel_rfl) rfl) (fun s => s.toList == a1.toList) fG eQ aN _ (Kd.aX iC HW.out) ?_⟩
  intro W s A1 n1 c1 A2 n2 c2 hb
  have hcell : W.cell? ⟨w.heap.size + 1, 0, none⟩ = some (.string a1) := by
   rw [hb.cell (p := ⟨w.heap.size + 1, 0, none⟩) (by simp)]
   simp
  exact (Wt s a1 A1 n1 c1 A2 n2 c2 (w.heap.size + 1) W (Nat.lt_of_lt_of_le (by simp) hb.size) hcell).mono fun e w' ⟨he, hd⟩ => ⟨he, xH hb hb.size hd⟩
 generalize idxI (fun s => s.toList == a1.toList) aN 0 = b at HC
 clear iG iD iC iE
 go_enter Try.func84, Try.ntmps84
 go_wp2_with ((go_at_call 117; refine HC.out.mono ?_; rintro e w' ⟨rfl, hb'⟩))
 go_ret
 exact ⟨rfl, xH HW.out HW.out.size hb'⟩
end Go.Proofs.Ytaofjgnhapnndaa.Q
