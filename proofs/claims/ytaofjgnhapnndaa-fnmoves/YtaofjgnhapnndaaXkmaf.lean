/- Texts that the row needs: words on memory and rows, the contracts of the functions it reaches, and the plain lemmas on what they compute. -/
import Derived.Shelf.Abstract
import Derived.Test.YtaofjgnhapnndaaXkmae
set_option maxHeartbeats 8000000
set_option maxRecDepth 100000
open Go.Proofs.YtaofjgnhapnndaaFkm
namespace Go.Proofs.Ytaofjgnhapnndaa.Q
open Go.RowKit Go.Proofs.YtaofjgnhapnndaaW.PrintWords Go.Proofs.YtaofjgnhapnndaaW.PrintLast Go.Proofs.YtaofjgnhapnndaaW.PrintMore
set_option linter.unusedVariables false
set_option linter.unusedSimpArgs false
def PredS (g : Nat) (lb : Array Value) (p : ByteArray → Bool) (w : World) : Prop :=
  ∀ (W : World) (s : ByteArray), Below w.heap.size w W → Calls Try.prog g (#[.string s] ++ lb) W fun e w' => e = .returned (.bool (p s)) ∧ Below w.heap.size w w'
theorem C_len {α : Type} {d : Kd α} {w : World} {A : Option Addr} {n : Nat} {xs : List α} (h : d.C w A n xs) : n ≤ 9223372036854775807 := h.2.1
def idxP (p : ByteArray → Bool) : List ByteArray → Nat → Int
  | [], _ => -1
  | x :: xs, i => if p x = true then (i : Int) else idxP p xs (i + 1)
theorem idxP_nonneg (p : ByteArray → Bool) : ∀ (l : List ByteArray) (i : Nat), decide (0 ≤ idxP p l i) = l.any p := by
 intro l
 induction l with
 | nil => intro i; simp [idxP]
 | cons x xs ih =>
  intro i
  unfold idxP
  cases h : p x with
  | true => simp [h]
  | false => simp [h, ih]
set_option maxHeartbeats 2000000 in
theorem indexFunc_any (g : Nat) (lb : Array Value) (eg : ∀ args w, (callFunc g args).run Try.prog w = .ok (.enter g args) w) (p : ByteArray → Bool) (A0 : Option Addr) (c0 : Nat) (l0 : List ByteArray) (w : World)
  (gL : Kd.C Kd.string w A0 l0.length l0) (hp : PredS g lb p w) :
  Calls Try.prog 113 #[.slice A0 l0.length c0, .func (.func g) #[] lb] w fun e w' => e = .returned (.int .i64 (idxP p l0 0)) ∧ Below w.heap.size w w' := by
 have hbig := C_len gL
 have hL := Aside0.mk gL
 clear gL
 have HP := Aside0.mk hp
 clear hp
 go_enter Try.func113, Try.ntmps113
 go_wp2
 go_loopg [5, 8] l0.length (fun gg _ s8 wr => ∃ kk : Nat, kk ≤ l0.length ∧ l0.length - kk ≤ gg ∧ s8 = .int .i64 kk ∧ Aside0 (Below w.heap.size w wr) ∧ Aside0 (idxP p l0 0 = idxP p (l0.drop kk) kk))
 case atStart => exact ⟨0, Nat.zero_le _, by omega, rfl, ⟨Below.refl _ w⟩, ⟨by rw [List.drop_zero]⟩⟩
 obtain ⟨kk, hkk, hg, rfl, BW, A⟩ := hrel
 by_cases hlt : kk < l0.length
 ·have hltz : (kk : Int) < (l0.length : Int) := by omega
  have e1 := A.out
  rw [List.drop_eq_getElem_cons hlt, idxP] at e1
  have E1 := Aside0.mk e1
  clear e1
  obtain ⟨ad, rfl, hx⟩ := Kd.at_string hL.1 (kk : Int) (by omega) (by omega)
  rw [rdOf_nat _ _ _ hlt, Int.toNat_natCast] at hx
  have hcall := HP.out wr l0[kk] BW.out
  replace hx := (BW.out.cell (World.block_lt_of_cell? w _ hx)).trans hx
  generalize hy : l0[kk] = y at hx hcall E1
  clear hy
  cases hq : p y with
  | true =>
   rw [hq] at hcall
   have E2 : Aside0 (idxP p l0 0 = kk) := ⟨by rw [E1.out, if_pos hq]⟩
   clear hq
   go_wp2_with (go_at_fn g; refine hcall.mono ?_; rintro e w' ⟨rfl, hb'⟩)
   go_ret
   exact ⟨by rw [E2.out]; rfl, hb'⟩
  | false =>
   rw [hq] at hcall
   have E2 : Aside0 (idxP p l0 0 = idxP p (l0.drop (kk + 1)) (kk + 1)) := ⟨by rw [E1.out, if_neg (by simp [hq])]⟩
   clear hq
   go_wp2_with (go_at_fn g; refine hcall.mono ?_; rintro e w' ⟨rfl, hb'⟩)
   go_roundg (l0.length - (kk + 1))
   case measure => omega
   case rel => exact ⟨kk + 1, by omega, by omega, by go_num, ⟨hb'⟩, E2⟩
 have hltz : ¬ (kk : Int) < (l0.length : Int) := by omega
 have hk2 : kk = l0.length := by omega
 have E2 : Aside0 (idxP p l0 0 = -1) := ⟨by rw [A.out, hk2, List.drop_length]; rfl⟩
 subst hk2
 go_wp2
 go_ret
 exact ⟨by rw [E2.out]; rfl, BW.out⟩
theorem containsFunc_any (g : Nat) (lb : Array Value) (eg : ∀ args w, (callFunc g args).run Try.prog w = .ok (.enter g args) w) (p : ByteArray → Bool) (A0 : Option Addr) (c0 : Nat) (l0 : List ByteArray) (w : World)
  (gL : Kd.C Kd.string w A0 l0.length l0) (hp : PredS g lb p w) :
  Calls Try.prog 75 #[.slice A0 l0.length c0, .func (.func g) #[] lb] w fun e w' => e = .returned (.bool (l0.any p)) ∧ Below w.heap.size w w' := by
 have HC := Aside0.mk (indexFunc_any g lb eg p A0 c0 l0 w gL hp)
 have HN := Aside0.mk (idxP_nonneg p l0 0)
 clear gL hp eg
 generalize idxP p l0 0 = q at HC HN
 go_enter Try.func75, Try.ntmps75
 go_wp2_with (go_at_call 113; refine HC.out.mono ?_; rintro e w' ⟨rfl, hb'⟩)
 go_ret
 exact ⟨by rw [← HN.out]; rfl, hb'⟩
mutual
def impl_name.j0 : Nat → ByteArray → Bool → Option (Bool)
 | 0, _, _ => none
 | k + 1, a, b => if b = true then (some false) else (impl_name.l0 k a 0)
def impl_name.l0 : Nat → ByteArray → Int → Option (Bool)
 | 0, _, _ => none
 | k + 1, b, a => if a < (b.size : Int) then (if 0 ≤ a then (if (bt b a) ≥ 97 then (if (bt b a) ≤ 122 then (impl_name.l0 k b (wrap64 (a + 1))) else (if (bt b a) ≥ 48 then (if (bt b a) ≤ 57 then (impl_name.l0 k b (wrap64 (a + 1))) else (if ((bt b a) = 45) then (impl_name.l0 k b (wrap64 (a + 1))) else (some false))) else (if ((bt b a) = 45) then (impl_name.l0 k b (wrap64 (a + 1))) else (some false)))) else (if (bt b a) ≥ 48 then (if (bt b a) ≤ 57 then (impl_name.l0 k b (wrap64 (a + 1))) else (if ((bt b a) = 45) then (impl_name.l0 k b (wrap64 (a + 1))) else (some false))) else (if ((bt b a) = 45) then (impl_name.l0 k b (wrap64 (a + 1))) else (some false)))) else (none)) else (some true)
end
def impl_name.f (k : Nat) (a0 : ByteArray) : Option (Bool) := if (a0.size : Int) < 1 then (impl_name.j0 k a0 true) else (impl_name.j0 k a0 (decide ((a0.size : Int) > 8)))
theorem impl_name.mono_l : ∀ k, (∀ y0 y1, LeO (impl_name.j0 k y0 y1) (impl_name.j0 (k + 1) y0 y1)) ∧ (∀ y0 y1, LeO (impl_name.l0 k y0 y1) (impl_name.l0 (k + 1) y0 y1))
 | 0 => ⟨fun _ _ r h => by simp [impl_name.j0] at h, fun _ _ r h => by simp [impl_name.l0] at h⟩
 | k + 1 => by
  obtain ⟨ih0, ih1⟩ := impl_name.mono_l k
  refine ⟨?_, ?_⟩
  ·intro y0 y1
   unfold impl_name.j0
   repeat' first
   | (with_reducible exact ih0 _ _)
   | (with_reducible exact ih1 _ _)
   | (with_reducible exact LeO.refl _)
   | (with_reducible exact LeO.none _)
   | (with_reducible refine LeO.ite ?_ ?_)
   | (with_reducible refine LeO.bind ?_ (fun _ => ?_))
   | exact ih0 _ _
   | exact ih1 _ _
   | exact LeO.none _
   | refine LeO.ite ?_ ?_
   | refine LeO.bind ?_ (fun _ => ?_)
  ·intro y0 y1
   unfold impl_name.l0
   repeat' first
   | (with_reducible exact ih0 _ _)
   | (with_reducible exact ih1 _ _)
   | (with_reducible exact LeO.refl _)
   | (with_reducible exact LeO.none _)
   | (with_reducible refine LeO.ite ?_ ?_)
   | (with_reducible refine LeO.bind ?_ (fun _ => ?_))
   | exact ih0 _ _
   | exact ih1 _ _
   | exact LeO.none _
   | refine LeO.ite ?_ ?_
   | refine LeO.bind ?_ (fun _ => ?_)
theorem impl_name.mono : ∀ a0 k, LeO (impl_name.f k a0) (impl_name.f (k + 1) a0) := by
 intro a0 k
 obtain ⟨ih0, ih1⟩ := impl_name.mono_l k
 unfold impl_name.f
 repeat' first
   | (with_reducible exact ih0 _ _)
   | (with_reducible exact ih1 _ _)
   | (with_reducible exact LeO.refl _)
   | (with_reducible exact LeO.none _)
   | (with_reducible refine LeO.ite ?_ ?_)
   | (with_reducible refine LeO.bind ?_ (fun _ => ?_))
   | exact ih0 _ _
   | exact ih1 _ _
   | exact LeO.none _
   | refine LeO.ite ?_ ?_
   | refine LeO.bind ?_ (fun _ => ?_)
theorem impl_name.calls (k : Nat) (a0 : ByteArray) (r : Bool) (w : World) (h : impl_name.f k a0 = some r) :
  Calls Try.prog 77 #[.string a0] w fun e w' => e = .returned (.bool r) ∧ Drawn0 w w' := by
 unfold impl_name.f at h
 have H := h
 clear h
 have oL := am H
 clear H
 go_enter Try.func77, Try.ntmps77
 go_upto_region 1 with ((fail))
 go_cut [12] (fun Dh wc => ∃ (kq : Nat) (fL : Bool), Dh = .bool fL ∧ Aside0 (impl_name.j0 kq a0 fL = some r) ∧ Aside0 (kq ≤ k) ∧ Drawn0 w wc)
 case first =>
  have H := oL.1
  clear oL
  by_cases c3 : (a0.size : Int) < 1
  ·rw [if_pos c3] at H
   have pG : decide ((a0.size : Int) < 1) = true := decide_eq_true c3
   have H4 : decide (a0.size < 1) = true := decide_eq_true (by omega)
   clear c3
   (first | rw [pG] | (simp only [i64_w, i32_w]; rw [pG]) | skip)
   have H' := am H
   repeat clear H
   go_wp2
   go_meet
   exact ⟨_, (true), aQ, H', ⟨by first | omega | exact Nat.le_refl _⟩, cG⟩
  rw [if_neg c3] at H
  have pG : decide ((a0.size : Int) < 1) = false := decide_eq_false c3
  have H4 : decide (a0.size < 1) = false := decide_eq_false (by omega)
  clear c3
  (first | rw [pG] | (simp only [i64_w, i32_w]; rw [pG]) | skip)
  have H' := am H
  repeat clear H
  go_wp2
  go_meet
  exact ⟨_, (decide ((a0.size : Int) > 8)), aQ, H', ⟨by first | omega | exact Nat.le_refl _⟩, cG⟩
 clear oL
 obtain ⟨kq, fL, rfl, HA, HJ1, ⟨mc1, rfl⟩⟩ := hcut
 cases kq with
 | zero => exact absurd HA.out (by simp [impl_name.j0])
 | succ kj1 =>
  have H := HA.out
  clear HA
  simp only [impl_name.j0] at H
  refine tC H ?_ ?_ <;> clear H <;> intro c4 H <;> subst c4
  ·obtain rfl := Option.some.inj H
   repeat clear H
   go_wp2
   go_ret
   exact ⟨by first | rfl | (simp; done) | (simp [*]; done), cG⟩
  ·have H' := am H
   repeat clear H
   go_wp2
   go_loopg [3] kj1 (fun kq v3 w' => ∃ (d3 : Int), v3 = .int .i64 d3 ∧ Aside0 (impl_name.l0 kq a0 d3 = some r) ∧ Aside0 (kq ≤ kj1) ∧ Drawn0 w w')
   case atStart => exact ⟨(0), aQ, H', ⟨Nat.le_refl _⟩, cG⟩
   case round =>
    clear H'
    try clear c4
    obtain ⟨d3, rfl, HA, HK2, ⟨m2, rfl⟩⟩ := hrel
    cases gk with
    | zero => exact absurd HA.out (by simp [impl_name.l0])
    | succ k2 =>
     have H := HA.out
     clear HA
     simp only [impl_name.l0] at H
     refine ic H ?_ ?_ <;> clear H <;> intro pH H
     ·obtain ⟨sC, H⟩ := cN H
      by_cases c8 : (bt a0 d3) ≥ 97
      ·rw [if_pos c8] at H
       have sD : decide (97 ≤ (bt a0 d3)) = true := decide_eq_true c8
       clear c8
       refine ic H ?_ ?_ <;> clear H <;> intro vQ H
       ·have H' := am H
        repeat clear H
        obtain ⟨KZ, p7, q7⟩ := aB a0 d3
        go_wp2
        go_roundg k2
        case measure => have := HJ1.out; have := HK2.out; omega
        case rel => exact ⟨(wrap64 (d3 + 1)), aQ, H', ⟨by have := HJ1.out; have := HK2.out; omega⟩, cG⟩
       ·by_cases D9 : (bt a0 d3) ≥ 48
        ·rw [if_pos D9] at H
         have n9 : decide (48 ≤ (bt a0 d3)) = true := decide_eq_true D9
         clear D9
         refine ic H ?_ ?_ <;> clear H <;> intro qH H
         ·have H' := am H
          repeat clear H
          obtain ⟨KZ, p7, q7⟩ := aB a0 d3
          go_wp2
          go_roundg k2
          case measure => have := HJ1.out; have := HK2.out; omega
          case rel => exact ⟨(wrap64 (d3 + 1)), aQ, H', ⟨by have := HJ1.out; have := HK2.out; omega⟩, cG⟩
         ·refine iq H ?_ ?_ <;> clear H <;> intro Mw tD J5 H
          ·have H' := am H
           repeat clear H
           obtain ⟨KZ, p7, q7⟩ := aB a0 d3
           go_wp2
           go_roundg k2
           case measure => have := HJ1.out; have := HK2.out; omega
           case rel => exact ⟨(wrap64 (d3 + 1)), aQ, H', ⟨by have := HJ1.out; have := HK2.out; omega⟩, cG⟩
          ·obtain rfl := Option.some.inj H
           repeat clear H
           obtain ⟨KZ, p7, q7⟩ := aB a0 d3
           go_wp2
           go_ret
           exact ⟨by first | rfl | (simp; done) | (simp [*]; done), cG⟩
        ·rw [if_neg D9] at H
         have n9 : decide (48 ≤ (bt a0 d3)) = false := decide_eq_false D9
         clear D9
         refine iq H ?_ ?_ <;> clear H <;> intro EN zP YV H
         ·have H' := am H
          repeat clear H
          obtain ⟨KZ, p7, q7⟩ := aB a0 d3
          go_wp2
          go_roundg k2
          case measure => have := HJ1.out; have := HK2.out; omega
          case rel => exact ⟨(wrap64 (d3 + 1)), aQ, H', ⟨by have := HJ1.out; have := HK2.out; omega⟩, cG⟩
         ·obtain rfl := Option.some.inj H
          repeat clear H
          obtain ⟨KZ, p7, q7⟩ := aB a0 d3
          go_wp2
          go_ret
          exact ⟨by first | rfl | (simp; done) | (simp [*]; done), cG⟩
      ·rw [if_neg c8] at H
       have sD : decide (97 ≤ (bt a0 d3)) = false := decide_eq_false c8
       clear c8
       by_cases G7 : (bt a0 d3) ≥ 48
       ·rw [if_pos G7] at H
        have DA : decide (48 ≤ (bt a0 d3)) = true := decide_eq_true G7
        clear G7
        refine ic H ?_ ?_ <;> clear H <;> intro DB H
        ·have H' := am H
         repeat clear H
         obtain ⟨KZ, p7, q7⟩ := aB a0 d3
         go_wp2
         go_roundg k2
         case measure => have := HJ1.out; have := HK2.out; omega
         case rel => exact ⟨(wrap64 (d3 + 1)), aQ, H', ⟨by have := HJ1.out; have := HK2.out; omega⟩, cG⟩
        ·refine iq H ?_ ?_ <;> clear H <;> intro DC tE J8 H
         ·have H' := am H
          repeat clear H
          obtain ⟨KZ, p7, q7⟩ := aB a0 d3
          go_wp2
          go_roundg k2
          case measure => have := HJ1.out; have := HK2.out; omega
          case rel => exact ⟨(wrap64 (d3 + 1)), aQ, H', ⟨by have := HJ1.out; have := HK2.out; omega⟩, cG⟩
         ·obtain rfl := Option.some.inj H
          repeat clear H
          obtain ⟨KZ, p7, q7⟩ := aB a0 d3
          go_wp2
          go_ret
          exact ⟨by first | rfl | (simp; done) | (simp [*]; done), cG⟩
       ·rw [if_neg G7] at H
        have DA : decide (48 ≤ (bt a0 d3)) = false := decide_eq_false G7
        clear G7
        refine iq H ?_ ?_ <;> clear H <;> intro VL OM Xq H
        ·have H' := am H
         repeat clear H
         obtain ⟨KZ, p7, q7⟩ := aB a0 d3
         go_wp2
         go_roundg k2
         case measure => have := HJ1.out; have := HK2.out; omega
         case rel => exact ⟨(wrap64 (d3 + 1)), aQ, H', ⟨by have := HJ1.out; have := HK2.out; omega⟩, cG⟩
        ·obtain rfl := Option.some.inj H
         repeat clear H
         obtain ⟨KZ, p7, q7⟩ := aB a0 d3
         go_wp2
         go_ret
         exact ⟨by first | rfl | (simp; done) | (simp [*]; done), cG⟩
     ·obtain rfl := Option.some.inj H
      repeat clear H
      go_wp2
      go_ret
      exact ⟨by first | rfl | (simp; done) | (simp [*]; done), cG⟩
end Go.Proofs.Ytaofjgnhapnndaa.Q
namespace Go.Proofs.Ytaofjgnhapnndaa.Q
open Go.RowKit Go.Proofs.YtaofjgnhapnndaaW.PrintWords Go.Proofs.YtaofjgnhapnndaaW.PrintLast Go.Proofs.YtaofjgnhapnndaaW.PrintMore
set_option linter.unusedVariables false
set_option linter.unusedSimpArgs false
def okc (c : Int) : Bool := (decide (97 ≤ c) && decide (c ≤ 122)) || (decide (48 ≤ c) && decide (c ≤ 57)) || decide (c = 45)
def nameB (s : ByteArray) : Bool := decide (1 ≤ s.size) && decide (s.size ≤ 8) && (List.range' 0 s.size).all fun j => okc (bt s (j : Int))
theorem okc_true {c : Int} (h : okc c = true) : (97 ≤ c ∧ c ≤ 122) ∨ (48 ≤ c ∧ c ≤ 57) ∨ c = 45 := by
 simpa [okc, or_assoc] using h
theorem okc_false {c : Int} (h : okc c = false) : ¬ (97 ≤ c ∧ c ≤ 122) ∧ ¬ (48 ≤ c ∧ c ≤ 57) ∧ ¬ c = 45 := by
 simp only [okc, Bool.or_eq_false_iff, Bool.and_eq_false_iff, decide_eq_false_iff_not] at h
 omega
theorem okc_ite {α : Type} (c : Int) (x y : α) :
  (if c ≥ 97 then (if c ≤ 122 then x else (if c ≥ 48 then (if c ≤ 57 then x else (if c = 45 then x else y)) else (if c = 45 then x else y))) else (if c ≥ 48 then (if c ≤ 57 then x else (if c = 45 then x else y)) else (if c = 45 then x else y))) = if okc c = true then x else y := by
 cases h : okc c with
 | true =>
  rw [if_pos rfl]
  have h := okc_true h
  split
  ·split
   ·rfl
   ·split
    ·split
     ·rfl
     ·rw [if_pos (by omega)]
    ·rw [if_pos (by omega)]
  ·split
   ·split
    ·rfl
    ·rw [if_pos (by omega)]
   ·rw [if_pos (by omega)]
 | false =>
  rw [show (if false = true then x else y) = y from rfl]
  obtain ⟨h1, h2, h3⟩ := okc_false h
  rw [if_neg h3]
  by_cases a : c ≥ 97
  ·rw [if_pos a, if_neg (fun b => h1 ⟨a, b⟩)]
   by_cases a2 : c ≥ 48
   ·rw [if_pos a2, if_neg (fun b => h2 ⟨a2, b⟩)]
   ·rw [if_neg a2]
  ·rw [if_neg a]
   by_cases a2 : c ≥ 48
   ·rw [if_pos a2, if_neg (fun b => h2 ⟨a2, b⟩)]
   ·rw [if_neg a2]
theorem name_go (s : ByteArray) (hs : s.size ≤ 9223372036854775807) : ∀ (d k i : Nat), s.size - i = d → i ≤ s.size → d < k →
  impl_name.l0 k s (i : Int) = some ((List.range' i d).all fun j => okc (bt s (j : Int))) := by
 intro d
 induction d with
 | zero =>
  intro k i hd hi hk
  obtain ⟨k, rfl⟩ : ∃ m, k = m + 1 := ⟨k - 1, by omega⟩
  simp only [impl_name.l0]
  rw [if_neg (by omega)]
  rfl
 | succ d ih =>
  intro k i hd hi hk
  obtain ⟨k, rfl⟩ : ∃ m, k = m + 1 := ⟨k - 1, by omega⟩
  simp only [impl_name.l0, List.range'_succ, List.all_cons]
  rw [if_pos (by omega), if_pos (by omega), okc_ite]
  cases h : okc (bt s (i : Int)) with
  | true =>
   rw [if_pos rfl, wrap_succ (show i < s.size by omega) hs, ih k (i + 1) (by omega) (by omega) (by omega)]
   rfl
  | false =>
   rw [if_neg (by simp)]
   rfl
theorem name_at (s : ByteArray) : impl_name.f 10 s = some (nameB s) := by
 unfold impl_name.f nameB
 by_cases h1 : (s.size : Int) < 1
 ·rw [if_pos h1]
  simp only [impl_name.j0]
  rw [if_pos trivial, show decide (1 ≤ s.size) = false from decide_eq_false (by omega)]
  rfl
 rw [if_neg h1]
 simp only [impl_name.j0]
 by_cases h2 : (s.size : Int) > 8
 ·rw [if_pos (decide_eq_true h2), show decide (s.size ≤ 8) = false from decide_eq_false (by omega)]
  simp
 rw [if_neg (by simpa using h2), show (0 : Int) = ((0 : Nat) : Int) from rfl, name_go s (by omega) s.size 9 0 (by omega) (by omega) (by omega)]
 rw [show decide (s.size ≤ 8) = true from decide_eq_true (by omega), show decide (1 ≤ s.size) = true from decide_eq_true (by omega)]
 rfl
def impl_ShareBookOk_1.f (k : Nat) (a0 : ByteArray) : Option (Bool) := (impl_name.f k a0).bind fun a => (some (!a))
theorem impl_ShareBookOk_1.calls (k : Nat) (a0 : ByteArray) (r : Bool) (w : World) (h : impl_ShareBookOk_1.f k a0 = some r) :
  Calls Try.prog 76 #[.string a0] w fun e w' => e = .returned (.bool r) ∧ Drawn0 w w' := by
 unfold impl_ShareBookOk_1.f at h
 have H := h
 clear h
 obtain ⟨eJ, A2, H⟩ := bd H
 obtain rfl := Option.some.inj H
 repeat clear H
 go_enter Try.func76, Try.ntmps76
 go_wp2_with (first | ((with_reducible refine gC 77 ?_); refine cQ (some 4) Try.func77 (impl_name.calls k a0 eJ _ A2.out) ?_; rintro w' ⟨nd, rfl⟩))
 go_ret
 exact ⟨by first | rfl | (simp; done) | (simp [*]; done), cG⟩
theorem notName_at (s : ByteArray) : impl_ShareBookOk_1.f 10 s = some (!nameB s) := by
 unfold impl_ShareBookOk_1.f
 rw [name_at]
 rfl
def slices_ContainsFunc_string_string.f (l0 : List ByteArray) : Option (Bool) := some (l0.any fun s => !nameB s)
theorem slices_ContainsFunc_string_string.calls (A0 : Option Addr) (c0 : Nat) (l0 : List ByteArray) (r : Bool) (w : World) (gL : Kd.C Kd.string w A0 l0.length l0) (l7 : l0.length ≤ c0) (h : slices_ContainsFunc_string_string.f l0 = some r) :
  Calls Try.prog 75 #[.slice A0 l0.length c0, .func (.func 76) #[] #[]] w fun e w' => e = .returned (.bool r) ∧ Below w.heap.size w w' := by
 obtain rfl := Option.some.inj h
 refine containsFunc_any 76 #[] (enters_of Try.func76 (by kernel_rfl) rfl) (fun s => !nameB s) A0 c0 l0 w gL (fun W s hb => ?_)
 exact (impl_ShareBookOk_1.calls 10 s (!nameB s) W (notName_at s)).mono fun e w' ⟨he, hd⟩ => ⟨he, below_then hb hb.size hd.below⟩
theorem common1_any (s : ByteArray) (gb : Nat) (A1 : Option Addr) (c1 : Nat) (l1 : List ByteArray) (W : World) (sW : l1.length ≤ c1) (hcell : W.cell? ⟨gb, 0, none⟩ = some (.slice A1 l1.length c1)) (qQ : Kd.C Kd.string W A1 l1.length l1) :
  Calls Try.prog 114 #[.string s, .pointer (some ⟨gb, 0, none⟩)] W fun e w' => e = .returned (.bool (hasS l1 s)) ∧ Drawn0 W w' := by
 have qX := am qQ
 have sS := am sW
 have HK := am (contains_at l1 s (C_len qQ))
 clear qQ sW
 generalize hasS l1 s = b at HK
 go_enter Try.func114, Try.ntmps114
 go_wp2_with ((go_at_call 81; refine (slices_Contains_string_string.calls (l1.length + 1) A1 c1 l1 s b _ ?s1 sS.1 HK.out).mono ?_; (case s1 => repeat (first | exact qX.1 | (with_reducible refine Kd.C_alloc ?_ _) | (with_reducible refine Kd.C_drewN ?_ _) | (with_reducible refine Kd.C_drew ?_))); rintro e w' ⟨rfl, ⟨nd, rfl⟩⟩))
 go_ret
 exact ⟨rfl, cG⟩
def impl_common.f (l0 : List ByteArray) (l1 : List ByteArray) : Option (Bool) := some (l0.any (hasS l1))
theorem impl_common.calls (A0 : Option Addr) (c0 : Nat) (l0 : List ByteArray) (A1 : Option Addr) (c1 : Nat) (l1 : List ByteArray) (r : Bool) (w : World) (gL : Kd.C Kd.string w A0 l0.length l0) (l7 : l0.length ≤ c0) (qQ : Kd.C Kd.string w A1 l1.length l1) (sW : l1.length ≤ c1) (h : impl_common.f l0 l1 = some r) :
  Calls Try.prog 78 #[.slice A0 l0.length c0, .slice A1 l1.length c1] w fun e w' => e = .returned (.bool r) ∧ Below w.heap.size w w' := by
 obtain rfl := Option.some.inj h
 clear h
 have HW : Aside0 (Below w.heap.size w (w.alloc (.cells #[.slice A1 l1.length c1] 23 (0, 0)))) := ⟨(Below.refl _ _).alloc (Nat.le_refl _) _⟩
 have HC : Aside0 (Calls Try.prog 75 #[.slice A0 l0.length c0, .func (.func 114) #[] #[.pointer (some ⟨w.heap.size, 0, none⟩)]] (w.alloc (.cells #[.slice A1 l1.length c1] 23 (0, 0))) fun e w' => e = .returned (.bool (l0.any (hasS l1))) ∧ Below (w.alloc (.cells #[.slice A1 l1.length c1] 23 (0, 0))).heap.size (w.alloc (.cells #[.slice A1 l1.length c1] 23 (0, 0))) w') := by
  refine ⟨containsFunc_any 114 _ (enters_of Try.func114 (by kernel_rfl) rfl) (hasS l1) A0 c0 l0 _ (Kd.C_below gL HW.out) ?_⟩
  intro W s hb
  have hcell : W.cell? ⟨w.heap.size, 0, none⟩ = some (.slice A1 l1.length c1) := by
   rw [hb.cell (p := ⟨w.heap.size, 0, none⟩) (by simp)]
   simp
  exact (common1_any s w.heap.size A1 c1 l1 W sW hcell (Kd.C_below (Kd.C_below qQ HW.out) hb)).mono fun e w' ⟨he, hd⟩ => ⟨he, below_then hb hb.size hd.below⟩
 generalize l0.any (hasS l1) = b at HC
 clear gL l7 qQ sW
 go_enter Try.func78, Try.ntmps78
 go_wp2_with ((go_at_call 75; refine HC.out.mono ?_; rintro e w' ⟨rfl, hb'⟩))
 go_ret
 exact ⟨rfl, below_then HW.out HW.out.size hb'⟩
mutual
def impl_ShareBookOk.j0 : Nat → Bool → List ByteArray → List (S56) → Option (Bool)
 | 0, _, _, _ => none
 | k + 1, b, c, a => if b = true then (some false) else (impl_ShareBookOk.l0 k a (a.length : Int) 0 c a)
def impl_ShareBookOk.l0 : Nat → List (S56) → Int → Int → List ByteArray → List (S56) → Option (Bool)
 | 0, _, _, _, _, _ => none
 | k + 1, b, e, a, c, d => if a < e then (if 0 ≤ a then (if a < (b.length : Int) then ((impl_name.f k ((rd_T56 b a).f0)).bind fun g => (if g = true then (if a > 0 then (if 0 ≤ (wrap64 (a - 1)) then (if (wrap64 (a - 1)) < (d.length : Int) then (if ((Op.bytesLess (((rd_T56 d (wrap64 (a - 1))).f0).toList) (((rd_T56 b a).f0).toList)) = true) then ((impl_of.f k ((rd_T56 b a).f2) c).bind fun h => (if h = true then ((impl_of.f k ((rd_T56 b a).f1) ((rd_T56 b a).f2)).bind fun i => (impl_ShareBookOk.j2 k a b e a (!i) c d ((rd_T56 b a).f0) ((rd_T56 b a).f1) ((rd_T56 b a).f2))) else (impl_ShareBookOk.j2 k a b e a true c d ((rd_T56 b a).f0) ((rd_T56 b a).f1) ((rd_T56 b a).f2)))) else (impl_ShareBookOk.j2 k a b e a true c d ((rd_T56 b a).f0) ((rd_T56 b a).f1) ((rd_T56 b a).f2))) else (none)) else (none)) else ((impl_of.f k ((rd_T56 b a).f2) c).bind fun j => (if j = true then ((impl_of.f k ((rd_T56 b a).f1) ((rd_T56 b a).f2)).bind fun l => (impl_ShareBookOk.j2 k a b e a (!l) c d ((rd_T56 b a).f0) ((rd_T56 b a).f1) ((rd_T56 b a).f2))) else (impl_ShareBookOk.j2 k a b e a true c d ((rd_T56 b a).f0) ((rd_T56 b a).f1) ((rd_T56 b a).f2))))) else (impl_ShareBookOk.j2 k a b e a true c d ((rd_T56 b a).f0) ((rd_T56 b a).f1) ((rd_T56 b a).f2)))) else (none)) else (none)) else (some true)
def impl_ShareBookOk.j2 : Nat → Int → List (S56) → Int → Int → Bool → List ByteArray → List (S56) → ByteArray → List ByteArray → List ByteArray → Option (Bool)
 | 0, _, _, _, _, _, _, _, _, _, _ => none
 | k + 1, a, d, e, f, g, h, b, i, j, l => if g = true then (some false) else (if 0 ≤ a then (if a ≤ (b.length : Int) then ((some (b.take (a : Int).toNat : List (S56))).bind fun c => (impl_ShareBookOk.l1 k d e f c (c.length : Int) 0 h b i j l)) else (none)) else (none))
def impl_ShareBookOk.l1 : Nat → List (S56) → Int → Int → List (S56) → Int → Int → List ByteArray → List (S56) → ByteArray → List ByteArray → List ByteArray → Option (Bool)
 | 0, _, _, _, _, _, _, _, _, _, _, _ => none
 | k + 1, c, d, e, b, g, a, h, i, l, j, m => if a < g then (if 0 ≤ a then (if a < (b.length : Int) then ((impl_common.f j ((rd_T56 b a).f1)).bind fun n => (if n = true then (some false) else (impl_ShareBookOk.l1 k c d e b g (wrap64 (a + 1)) h i l j m))) else (none)) else (none)) else (impl_ShareBookOk.l0 k c d (wrap64 (e + 1)) h i)
end
def impl_ShareBookOk.f (k : Nat) (a7 : List ByteArray) (a4 : List (S56)) : Option (Bool) := if (a7.length : Int) > 8 then (impl_ShareBookOk.j0 k true a7 a4) else (if (a4.length : Int) > 5 then (impl_ShareBookOk.j0 k true a7 a4) else ((impl_of.f k a7 a7).bind fun a => (if a = true then ((slices_ContainsFunc_string_string.f a7).bind fun b => (impl_ShareBookOk.j0 k b a7 a4)) else (impl_ShareBookOk.j0 k true a7 a4))))
def impl_ShareBookOk.T6 : Bool × List (List Nat × List Nat) := (true, [([], []), ([0], [0]), ([1], [1]), ([2], [2]), ([3, 2], [3]), ([4], [4]), ([5, 4], [4, 5]), ([6, 4, 4], [4, 6]), ([7], [7]), ([8, 7], [7, 8]), ([7], [7]), ([10, 7], [7, 10]), ([9, 11, 7], [7, 9, 11]), ([12, 7], [7, 12]), ([13, 7], [7, 13]), ([7], [7]), ([15, 7], [7, 15]), ([14, 16, 7], [7, 14, 16]), ([7, 17, 4], [4, 7, 17]), ([4, 18], [4, 18]), ([19, 7], [19]), ([20], [20]), ([21, 20], [20, 21]), ([20], [20]), ([23, 20], [20, 23]), ([22, 24, 20, 20], [20, 22, 24]), ([25, 20], [20, 25]), ([20, 26], [20, 26]), ([27, 25], [27]), ([28], [28]), ([29, 28], [28, 29]), ([28], [28]), ([31, 28], [28, 31]), ([30, 32, 28, 28], [28, 30, 32]), ([33, 28], [28, 33]), ([28, 34], [28, 34])])
def impl_ShareBookOk.B6 : List Nat := [0, 1, 3, 7, 15, 31, 63, 127, 255, 511, 255, 1279, 4095, 8191, 16383, 255, 33023, 131071, 262143, 524287, 1048575, 2097151, 4194303, 2097151, 10485759, 33554431, 67108863, 134217727, 268435455, 536870911, 1073741823, 536870911, 2684354559, 8589934591, 17179869183, 34359738367]
theorem impl_ShareBookOk.tab6 : rtab .any (opsOf Try.f24 6) = impl_ShareBookOk.T6 := by kernel_rfl
theorem impl_ShareBookOk.bits6 : waitsOk impl_ShareBookOk.T6.2 impl_ShareBookOk.B6 = true := by kernel_rfl
theorem impl_ShareBookOk.calls (k : Nat) (bG : Option Addr) (bH : Nat) (a7 : List ByteArray) (bL : Option Addr) (bD : Nat) (a4 : List (S56)) (r : Bool) (w : World) (cZ : Kd.C Kd.string w bG a7.length a7) (cX : a7.length ≤ bH) (cU : Kd.C k56 w bL a4.length a4) (cY : a4.length ≤ bD) (h : impl_ShareBookOk.f k a7 a4 = some r) :
  Calls Try.prog 24 #[.agg #[.slice bG a7.length bH, .slice bL a4.length bD]] w fun e w' => e = .returned (.bool r) ∧ Below w.heap.size w w' := by
 have hu31 := Try.underlying31
 have hu56 := Try.underlying56
 obtain ⟨bC, bA⟩ := mZ2 cZ cX
 obtain ⟨aK, bM⟩ := mZ2 cU cY
 clear cZ cX cU cY
 have HB := am (Below.refl w.heap.size w)
 unfold impl_ShareBookOk.f at h
 have H := h
 clear h
 have oL := am H
 clear H
 go_enter Try.func24, Try.ntmps24
 go_upto_region 1 with (first | ((with_reducible refine gD 1 ?_); (try (refine gate_guard (by rfl) ?_; dsimp only)); refine bX 1 #[.slice bG a7.length bH, .slice bL a4.length bD] 31 ?_; intro a6 hg w3 hbox hb; have a3 := am hbox; have bR := am (hJ : w.heap.size ≤ a6); have cJ := bR; replace HB := bS cI hb; clear hb hbox hg))
 (try simp only [Act.put, List.setIfInBounds_toArray, List.set_cons_zero, List.set_cons_succ])
 go_cut [29] (fun ph wc => ∃ (kq : Nat) (KR : Bool), ph = .bool KR ∧ Aside0 (impl_ShareBookOk.j0 kq KR a7 a4 = some r) ∧ Aside0 (kq ≤ k) ∧ Aside0 (wc.heap[a6]? = some (.cells #[(.slice bG a7.length bH), (.slice bL a4.length bD)] 31 (0, 0))) ∧ Aside0 (Below w.heap.size w wc))
 case first =>
  have H := oL.1
  clear oL
  by_cases c4 : (a7.length : Int) > 8
  ·rw [if_pos c4] at H
   have jE : decide (8 < (a7.length : Int)) = true := decide_eq_true c4
   have yS : decide (8 < a7.length) = true := decide_eq_true (by omega)
   clear c4
   (first | rw [jE] | (simp only [i64_w, i32_w]; rw [jE]) | skip)
   have H' := am H
   repeat clear H
   have Z5 := cz2 a3
   go_wp2
   go_meet
   exact ⟨_, (true), aQ, H', ⟨by first | omega | exact Nat.le_refl _⟩, ⟨rB a3.1⟩, ⟨aY⟩⟩
  rw [if_neg c4] at H
  have jE : decide (8 < (a7.length : Int)) = false := decide_eq_false c4
  have yS : decide (8 < a7.length) = false := decide_eq_false (by omega)
  clear c4
  (first | rw [jE] | (simp only [i64_w, i32_w]; rw [jE]) | skip)
  by_cases c6 : (a4.length : Int) > 5
  ·rw [if_pos c6] at H
   have sC : decide (5 < (a4.length : Int)) = true := decide_eq_true c6
   have EQ : decide (5 < a4.length) = true := decide_eq_true (by omega)
   clear c6
   have H' := am H
   repeat clear H
   have Z7 := cz2 a3
   go_wp2
   go_meet
   exact ⟨_, (true), aQ, H', ⟨by first | omega | exact Nat.le_refl _⟩, ⟨rB a3.1⟩, ⟨aY⟩⟩
  rw [if_neg c6] at H
  have sC : decide (5 < (a4.length : Int)) = false := decide_eq_false c6
  have EQ : decide (5 < a4.length) = false := decide_eq_false (by omega)
  clear c6
  obtain ⟨eB, A8, H⟩ := bd H
  refine tC H ?_ ?_ <;> clear H <;> intro c9 H <;> subst c9
  ·obtain ⟨bE, VE, H⟩ := bd H
   have H' := am H
   repeat clear H
   have LT := cz2 a3
   go_wp2_with (first | (go_at_call 74; refine cM (impl_of.calls k _ _ a7 _ _ a7 true _ (pB bC) bA.1 (pB bC) bA.1 A8.out) ?_; rintro w' ⟨nd, rfl⟩) | (go_at_call 75; refine cM (slices_ContainsFunc_string_string.calls _ _ a7  bE _ (pC (Kd.C_below bC.1 aY)) bA.1 VE.out) ?_; rintro Sj hb; replace a3 := bB aC hb; replace HB := bS aY hb; (try clear hb)))
   go_meet
   exact ⟨_, (bE), aQ, H', ⟨by first | omega | exact Nat.le_refl _⟩, ⟨rB a3.1⟩, ⟨aY⟩⟩
  have H' := am H
  repeat clear H
  have OH := cz2 a3
  go_wp2_with (first | (go_at_call 74; refine cM (impl_of.calls k _ _ a7 _ _ a7 false _ (pB bC) bA.1 (pB bC) bA.1 A8.out) ?_; rintro w' ⟨nd, rfl⟩))
  go_meet
  exact ⟨_, (true), aQ, H', ⟨by first | omega | exact Nat.le_refl _⟩, ⟨rB a3.1⟩, ⟨aY⟩⟩
 clear oL
 obtain ⟨kq, KR, rfl, HA, HJ1, a3, HB⟩ := hcut
 cases kq with
 | zero => exact absurd HA.out (by simp [impl_ShareBookOk.j0])
 | succ kj1 =>
  have H := HA.out
  clear HA
  simp only [impl_ShareBookOk.j0] at H
  refine tC H ?_ ?_ <;> clear H <;> intro G7 H <;> subst G7
  ·obtain rfl := Option.some.inj H
   repeat clear H
   go_wp2
   go_ret
   exact ⟨eR, aY⟩
  ·have H' := am H
   repeat clear H
   have Eo := cz2 a3
   go_wp2
   go_loopg [33] kj1 (fun kq pi w' => ∃ (bJ : Int), pi = .int .i64 bJ ∧ Aside0 (impl_ShareBookOk.l0 kq a4 (a4.length : Int) bJ a7 a4 = some r) ∧ Aside0 (kq ≤ kj1) ∧ Aside0 (w'.heap[a6]? = some (.cells #[(.slice bG a7.length bH), (.slice bL a4.length bD)] 31 (0, 0))) ∧ Aside0 (Below w.heap.size w w'))
   case atStart => exact ⟨(0), aQ, H', ⟨Nat.le_refl _⟩, ⟨rB a3.1⟩, ⟨aY⟩⟩
   case round =>
    clear H'
    try clear G7
    try clear Eo
    obtain ⟨bJ, rfl, HA, HK2, a3, HB⟩ := hrel
    cases gk with
    | zero => exact absurd HA.out (by simp [impl_ShareBookOk.l0])
    | succ k2 =>
     have H := HA.out
     clear HA
     simp only [impl_ShareBookOk.l0] at H
     refine ic H ?_ ?_ <;> clear H <;> intro tE H
     ·obtain ⟨OM, H⟩ := cN H
      obtain ⟨mF, H⟩ := cN H
      have QO := am H
      clear H
      obtain ⟨eG, i9, iB, iA, iC, jW, hU, lM, lO, hP, hO, kN, kI, sY, t0⟩ := aT56 aK HB bJ
      cases jW
      go_upto_region 6 with (first | ((with_reducible refine gD 4 ?_); (try (refine gate_guard (by rfl) ?_; dsimp only)); refine bX 4 #[.string (⟨#[]⟩ : ByteArray), .slice none 0 0, .slice none 0 0] 56 ?_; intro mG hg KE hbox hb; have d5 := am hbox; have X4 := am (p3 : w.heap.size ≤ mG); have t4 := X4; replace HB := bS aY hb; have jA := nL aC hg; have vH := nG aC hg; replace a3 := bB aC hb; clear hb hbox hg; have kv := nZ1 vH jA; have Mn := cz3 d5))
      (try simp only [Act.put, List.setIfInBounds_toArray, List.set_cons_zero, List.set_cons_succ])
      go_cut [73] (fun pn wc => ∃ (kq : Nat) (FC : Bool), pn = .bool FC ∧ Aside0 (impl_ShareBookOk.j2 kq bJ a4 (a4.length : Int) bJ FC a7 a4 ((rd_T56 a4 bJ).f0) ((rd_T56 a4 bJ).f1) ((rd_T56 a4 bJ).f2) = some r) ∧ Aside0 (kq ≤ k2) ∧ Aside0 (wc.heap[a6]? = some (.cells #[(.slice bG a7.length bH), (.slice (some eG) a4.length bD)] 31 (0, 0))) ∧ Aside0 (wc.heap[mG]? = some (.cells #[.string ((rd_T56 a4 bJ).f0), (.slice i9 ((rd_T56 a4 bJ).f1).length iB), (.slice iA ((rd_T56 a4 bJ).f2).length iC)] 56 (0, 0))) ∧ Aside0 (Below w.heap.size w wc))
      case first =>
       have H := QO.1
       clear QO
       obtain ⟨bT, yO, H⟩ := bd H
       refine tC H ?_ ?_ <;> clear H <;> intro DD H <;> subst DD
       ·by_cases OS : bJ > 0
        ·rw [if_pos OS] at H
         have zQ : decide (0 < bJ) = true := decide_eq_true OS
         clear OS
         (first | rw [zQ] | (simp only [i64_w, i32_w]; rw [zQ]) | skip)
         obtain ⟨ji26, hji26⟩ : ∃ j_ : Int, (wrap64 (bJ - 1)) = j_ := ⟨_, rfl⟩
         replace H : (if 0 ≤ (ji26) then (if (ji26) < (a4.length : Int) then (if ((Op.bytesLess (((rd_T56 a4 (ji26)).f0).toList) (((rd_T56 a4 bJ).f0).toList)) = true) then ((impl_of.f k2 ((rd_T56 a4 bJ).f2) a7).bind fun eV => (if eV = true then ((impl_of.f k2 ((rd_T56 a4 bJ).f1) ((rd_T56 a4 bJ).f2)).bind fun m9 => (impl_ShareBookOk.j2 k2 bJ a4 (a4.length : Int) bJ (!m9) a7 a4 ((rd_T56 a4 bJ).f0) ((rd_T56 a4 bJ).f1) ((rd_T56 a4 bJ).f2))) else (impl_ShareBookOk.j2 k2 bJ a4 (a4.length : Int) bJ true a7 a4 ((rd_T56 a4 bJ).f0) ((rd_T56 a4 bJ).f1) ((rd_T56 a4 bJ).f2)))) else (impl_ShareBookOk.j2 k2 bJ a4 (a4.length : Int) bJ true a7 a4 ((rd_T56 a4 bJ).f0) ((rd_T56 a4 bJ).f1) ((rd_T56 a4 bJ).f2))) else (none)) else (none)) = some r := by first | (rw [hji26] at H; exact H) | (simp only [hji26] at H ⊢; exact H)
         (try rw [hji26] at yO)
         have hji26w : (IntKind.i64.wrap (bJ - 1)) = ji26 := (i64_w _).trans hji26
         obtain ⟨zR, H⟩ := cN H
         obtain ⟨OT, H⟩ := cN H
         refine tC H ?_ ?_ <;> clear H <;> intro OU H
         ·obtain ⟨eV, I0, H⟩ := bd H
          refine tC H ?_ ?_ <;> clear H <;> intro VM H <;> subst VM
          ·obtain ⟨m9, VJ, H⟩ := bd H
           have H' := am H
           repeat clear H
           try go_wp2
           obtain ⟨WH, eW_⟩ := eW3 KE mG (.string ((rd_T56 a4 bJ).f0)) (.slice i9 ((rd_T56 a4 bJ).f1).length iB) (.slice iA ((rd_T56 a4 bJ).f2).length iC)
           rw [← eW_]
           replace a3 := uF3 eW_ a3 jA
           replace d5 := uP3 eW_ d5
           replace HB := uC3 eW_ HB t4
           clear eW_
           replace a3 := BD a3
           replace d5 := BD d5
           replace HB := am (below_drew1 HB.1)
           obtain ⟨k9, n0, n7, n3, n8, r9, fM, fO, fP, jV, gA, gF, f4, gN, jT, o2, DS, DW⟩ := aTw56 aK HB (ji26)
           obtain rfl : eG = k9 := (by injection r9)
           refine sT [] 36 (uB3 d5 (uB2 a3 (uBx HB fM (uBx HB fO (uAx HB fP))))) (fun hHeld => ?_)
           refine with_tabW impl_ShareBookOk.tab6 impl_ShareBookOk.bits6 (fun HT_ HW_ => ?_)
           generalize WH.drew = Sm at a3 d5 HB f4 jT jV gA gF hHeld ⊢
           refine pU1 0 ?_
           refine tK8 1 (some 39) ?_
           refine oN 2 (some 40) fun K hK => ?_
           refine gQ Try.func77 (impl_name.calls k2 ((rd_T56 a4 bJ).f0) true _ yO.out) ?_
           rintro w' ⟨nd, rfl⟩
           refine nK hK (uB3 d5 (uB2 a3 (uBx HB fM (uBx HB fO (uAx HB fP))))).1 fun hHeld => ?_
           clear hK K
           refine pU8 3 4 5 6 7 8 10 11 ?_
           refine pU1 15 ?_
           refine tK8 9 (some 47) ?_
           refine pU2 12 13 ?_
           refine tK8 14 (some 52) ?_
           refine tK8 16 (some 54) ?_
           refine pU6 17 18 19 20 21 23 ?_
           refine tK8 22 (some 60) ?_
           refine tK8 24 (some 62) ?_
           refine oN 25 (some 63) fun K hK => ?_
           refine gQ Try.func74 (impl_of.calls k2 _ _ ((rd_T56 a4 bJ).f2) _ _ a7 true _ (pC (Kd.C_below kN.1 nT)) kI.1 (pC (Kd.C_below bC.1 nT)) bA.1 I0.out) ?_
           rintro w' ⟨nd, rfl⟩
           refine nK hK (uB3 d5 (uB2 a3 (uBx HB fM (uBx HB fO (uAx HB fP))))).1 fun hHeld => ?_
           clear hK K
           refine pU5 26 27 28 29 31 ?_
           refine tK8 30 (some 68) ?_
           refine tK8 32 (some 70) ?_
           refine oN 33 (some 71) fun K hK => ?_
           refine gQ Try.func74 (impl_of.calls k2 _ _ ((rd_T56 a4 bJ).f1) _ _ ((rd_T56 a4 bJ).f2) m9 _ (pC (Kd.C_below hP.1 nT)) hO.1 (pC (Kd.C_below kN.1 nT)) kI.1 VJ.out) ?_
           rintro w' ⟨nd, rfl⟩
           refine nK hK (uB3 d5 (uB2 a3 (uBx HB fM (uBx HB fO (uAx HB fP))))).1 fun hHeld => ?_
           clear hK K
           refine pU2 34 35 ?_
           refine dN ?_
           try go_wp2
           go_meet
           case rel => exact ⟨_, (!m9), aQ, H', ⟨by have := HJ1.out; have := HK2.out; first | omega | exact Nat.le_refl _⟩, ⟨rB a3.1⟩, ⟨rB d5.1⟩, ⟨nT⟩⟩
          ·have H' := am H
           repeat clear H
           try go_wp2
           obtain ⟨N9, eW_⟩ := eW3 KE mG (.string ((rd_T56 a4 bJ).f0)) (.slice i9 ((rd_T56 a4 bJ).f1).length iB) (.slice iA ((rd_T56 a4 bJ).f2).length iC)
           rw [← eW_]
           replace a3 := uF3 eW_ a3 jA
           replace d5 := uP3 eW_ d5
           replace HB := uC3 eW_ HB t4
           clear eW_
           replace a3 := BD a3
           replace d5 := BD d5
           replace HB := am (below_drew1 HB.1)
           obtain ⟨k9, n0, n7, n3, n8, r9, fM, fO, fP, jV, gA, gF, f4, gN, jT, o2, DS, DW⟩ := aTw56 aK HB (ji26)
           obtain rfl : eG = k9 := (by injection r9)
           refine sT [] 36 (uB3 d5 (uB2 a3 (uBx HB fM (uBx HB fO (uAx HB fP))))) (fun hHeld => ?_)
           refine with_tabW impl_ShareBookOk.tab6 impl_ShareBookOk.bits6 (fun HT_ HW_ => ?_)
           generalize N9.drew = NA at a3 d5 HB f4 jT jV gA gF hHeld ⊢
           refine pU1 0 ?_
           refine tK8 1 (some 39) ?_
           refine oN 2 (some 40) fun K hK => ?_
           refine gQ Try.func77 (impl_name.calls k2 ((rd_T56 a4 bJ).f0) true _ yO.out) ?_
           rintro w' ⟨nd, rfl⟩
           refine nK hK (uB3 d5 (uB2 a3 (uBx HB fM (uBx HB fO (uAx HB fP))))).1 fun hHeld => ?_
           clear hK K
           refine pU8 3 4 5 6 7 8 10 11 ?_
           refine pU1 15 ?_
           refine tK8 9 (some 47) ?_
           refine pU2 12 13 ?_
           refine tK8 14 (some 52) ?_
           refine tK8 16 (some 54) ?_
           refine pU6 17 18 19 20 21 23 ?_
           refine tK8 22 (some 60) ?_
           refine tK8 24 (some 62) ?_
           refine oN 25 (some 63) fun K hK => ?_
           refine gQ Try.func74 (impl_of.calls k2 _ _ ((rd_T56 a4 bJ).f2) _ _ a7 false _ (pC (Kd.C_below kN.1 nT)) kI.1 (pC (Kd.C_below bC.1 nT)) bA.1 I0.out) ?_
           rintro w' ⟨nd, rfl⟩
           refine nK hK (uB3 d5 (uB2 a3 (uBx HB fM (uBx HB fO (uAx HB fP))))).1 fun hHeld => ?_
           clear hK K
           refine pU3 26 27 28 ?_
           refine pV6 29 30 31 32 33 34 ?_
           refine pU1 35 ?_
           refine dN ?_
           try go_wp2
           go_meet
           case rel => exact ⟨_, (true), aQ, H', ⟨by have := HJ1.out; have := HK2.out; first | omega | exact Nat.le_refl _⟩, ⟨rB a3.1⟩, ⟨rB d5.1⟩, ⟨nT⟩⟩
         ·have H' := am H
          repeat clear H
          try go_wp2
          obtain ⟨NB, eW_⟩ := eW3 KE mG (.string ((rd_T56 a4 bJ).f0)) (.slice i9 ((rd_T56 a4 bJ).f1).length iB) (.slice iA ((rd_T56 a4 bJ).f2).length iC)
          rw [← eW_]
          replace a3 := uF3 eW_ a3 jA
          replace d5 := uP3 eW_ d5
          replace HB := uC3 eW_ HB t4
          clear eW_
          replace a3 := BD a3
          replace d5 := BD d5
          replace HB := am (below_drew1 HB.1)
          obtain ⟨k9, n0, n7, n3, n8, r9, fM, fO, fP, jV, gA, gF, f4, gN, jT, o2, DS, DW⟩ := aTw56 aK HB (ji26)
          obtain rfl : eG = k9 := (by injection r9)
          refine sT [] 36 (uB3 d5 (uB2 a3 (uBx HB fM (uBx HB fO (uAx HB fP))))) (fun hHeld => ?_)
          refine with_tabW impl_ShareBookOk.tab6 impl_ShareBookOk.bits6 (fun HT_ HW_ => ?_)
          generalize NB.drew = PO at a3 d5 HB f4 jT jV gA gF hHeld ⊢
          refine pU1 0 ?_
          refine tK8 1 (some 39) ?_
          refine oN 2 (some 40) fun K hK => ?_
          refine gQ Try.func77 (impl_name.calls k2 ((rd_T56 a4 bJ).f0) true _ yO.out) ?_
          rintro w' ⟨nd, rfl⟩
          refine nK hK (uB3 d5 (uB2 a3 (uBx HB fM (uBx HB fO (uAx HB fP))))).1 fun hHeld => ?_
          clear hK K
          refine pU8 3 4 5 6 7 8 10 11 ?_
          refine pU1 15 ?_
          refine tK8 9 (some 47) ?_
          refine pU2 12 13 ?_
          refine tK8 14 (some 52) ?_
          refine tK8 16 (some 54) ?_
          refine pU4 17 18 19 20 ?_
          refine pV6 21 22 23 24 25 26 ?_
          refine pU2 27 28 ?_
          refine pV6 29 30 31 32 33 34 ?_
          refine pU1 35 ?_
          refine dN ?_
          try go_wp2
          go_meet
          case rel => exact ⟨_, (true), aQ, H', ⟨by have := HJ1.out; have := HK2.out; first | omega | exact Nat.le_refl _⟩, ⟨rB a3.1⟩, ⟨rB d5.1⟩, ⟨nT⟩⟩
        ·rw [if_neg OS] at H
         have zQ : decide (0 < bJ) = false := decide_eq_false OS
         clear OS
         (first | rw [zQ] | (simp only [i64_w, i32_w]; rw [zQ]) | skip)
         obtain ⟨jQ, Td, H⟩ := bd H
         refine tC H ?_ ?_ <;> clear H <;> intro ma H <;> subst ma
         ·obtain ⟨aT, ik, H⟩ := bd H
          have H' := am H
          repeat clear H
          try go_wp2
          obtain ⟨Sn, eW_⟩ := eW3 KE mG (.string ((rd_T56 a4 bJ).f0)) (.slice i9 ((rd_T56 a4 bJ).f1).length iB) (.slice iA ((rd_T56 a4 bJ).f2).length iC)
          rw [← eW_]
          replace a3 := uF3 eW_ a3 jA
          replace d5 := uP3 eW_ d5
          replace HB := uC3 eW_ HB t4
          clear eW_
          replace a3 := BD a3
          replace d5 := BD d5
          replace HB := am (below_drew1 HB.1)
          refine sT [] 36 (uB3 d5 (uA2 a3)) (fun hHeld => ?_)
          refine with_tabW impl_ShareBookOk.tab6 impl_ShareBookOk.bits6 (fun HT_ HW_ => ?_)
          generalize Sn.drew = Dq at a3 d5 HB hHeld ⊢
          refine pU1 0 ?_
          refine tK5 1 (some 39) ?_
          refine oN 2 (some 40) fun K hK => ?_
          refine gQ Try.func77 (impl_name.calls k2 ((rd_T56 a4 bJ).f0) true _ yO.out) ?_
          rintro w' ⟨nd, rfl⟩
          refine nK hK (uB3 d5 (uA2 a3)).1 fun hHeld => ?_
          clear hK K
          refine pU5 3 4 5 6 7 ?_
          refine pV8 8 9 10 11 12 13 14 15 ?_
          refine pV2 16 17 ?_
          refine pU5 18 19 20 21 23 ?_
          refine tK5 22 (some 60) ?_
          refine tK5 24 (some 62) ?_
          refine oN 25 (some 63) fun K hK => ?_
          refine gQ Try.func74 (impl_of.calls k2 _ _ ((rd_T56 a4 bJ).f2) _ _ a7 true _ (pC (Kd.C_below kN.1 nT)) kI.1 (pC (Kd.C_below bC.1 nT)) bA.1 Td.out) ?_
          rintro w' ⟨nd, rfl⟩
          refine nK hK (uB3 d5 (uA2 a3)).1 fun hHeld => ?_
          clear hK K
          refine pU5 26 27 28 29 31 ?_
          refine tK5 30 (some 68) ?_
          refine tK5 32 (some 70) ?_
          refine oN 33 (some 71) fun K hK => ?_
          refine gQ Try.func74 (impl_of.calls k2 _ _ ((rd_T56 a4 bJ).f1) _ _ ((rd_T56 a4 bJ).f2) aT _ (pC (Kd.C_below hP.1 nT)) hO.1 (pC (Kd.C_below kN.1 nT)) kI.1 ik.out) ?_
          rintro w' ⟨nd, rfl⟩
          refine nK hK (uB3 d5 (uA2 a3)).1 fun hHeld => ?_
          clear hK K
          refine pU2 34 35 ?_
          refine dN ?_
          try go_wp2
          go_meet
          case rel => exact ⟨_, (!aT), aQ, H', ⟨by have := HJ1.out; have := HK2.out; first | omega | exact Nat.le_refl _⟩, ⟨rB a3.1⟩, ⟨rB d5.1⟩, ⟨nT⟩⟩
         ·have H' := am H
          repeat clear H
          try go_wp2
          obtain ⟨WI, eW_⟩ := eW3 KE mG (.string ((rd_T56 a4 bJ).f0)) (.slice i9 ((rd_T56 a4 bJ).f1).length iB) (.slice iA ((rd_T56 a4 bJ).f2).length iC)
          rw [← eW_]
          replace a3 := uF3 eW_ a3 jA
          replace d5 := uP3 eW_ d5
          replace HB := uC3 eW_ HB t4
          clear eW_
          replace a3 := BD a3
          replace d5 := BD d5
          replace HB := am (below_drew1 HB.1)
          refine sT [] 36 (uB3 d5 (uA2 a3)) (fun hHeld => ?_)
          refine with_tabW impl_ShareBookOk.tab6 impl_ShareBookOk.bits6 (fun HT_ HW_ => ?_)
          generalize WI.drew = ek at a3 d5 HB hHeld ⊢
          refine pU1 0 ?_
          refine tK5 1 (some 39) ?_
          refine oN 2 (some 40) fun K hK => ?_
          refine gQ Try.func77 (impl_name.calls k2 ((rd_T56 a4 bJ).f0) true _ yO.out) ?_
          rintro w' ⟨nd, rfl⟩
          refine nK hK (uB3 d5 (uA2 a3)).1 fun hHeld => ?_
          clear hK K
          refine pU5 3 4 5 6 7 ?_
          refine pV8 8 9 10 11 12 13 14 15 ?_
          refine pV2 16 17 ?_
          refine pU5 18 19 20 21 23 ?_
          refine tK5 22 (some 60) ?_
          refine tK5 24 (some 62) ?_
          refine oN 25 (some 63) fun K hK => ?_
          refine gQ Try.func74 (impl_of.calls k2 _ _ ((rd_T56 a4 bJ).f2) _ _ a7 false _ (pC (Kd.C_below kN.1 nT)) kI.1 (pC (Kd.C_below bC.1 nT)) bA.1 Td.out) ?_
          rintro w' ⟨nd, rfl⟩
          refine nK hK (uB3 d5 (uA2 a3)).1 fun hHeld => ?_
          clear hK K
          refine pU3 26 27 28 ?_
          refine pV6 29 30 31 32 33 34 ?_
          refine pU1 35 ?_
          refine dN ?_
          try go_wp2
          go_meet
          case rel => exact ⟨_, (true), aQ, H', ⟨by have := HJ1.out; have := HK2.out; first | omega | exact Nat.le_refl _⟩, ⟨rB a3.1⟩, ⟨rB d5.1⟩, ⟨nT⟩⟩
       ·have H' := am H
        repeat clear H
        try go_wp2
        obtain ⟨Ku, eW_⟩ := eW3 KE mG (.string ((rd_T56 a4 bJ).f0)) (.slice i9 ((rd_T56 a4 bJ).f1).length iB) (.slice iA ((rd_T56 a4 bJ).f2).length iC)
        rw [← eW_]
        replace a3 := uF3 eW_ a3 jA
        replace d5 := uP3 eW_ d5
        replace HB := uC3 eW_ HB t4
        clear eW_
        replace a3 := BD a3
        replace d5 := BD d5
        replace HB := am (below_drew1 HB.1)
        refine sT [] 36 (uA3 d5) (fun hHeld => ?_)
        refine with_tabW impl_ShareBookOk.tab6 impl_ShareBookOk.bits6 (fun HT_ HW_ => ?_)
        generalize Ku.drew = So at a3 d5 HB hHeld ⊢
        refine pU1 0 ?_
        refine tK3 1 (some 39) ?_
        refine oN 2 (some 40) fun K hK => ?_
        refine gQ Try.func77 (impl_name.calls k2 ((rd_T56 a4 bJ).f0) false _ yO.out) ?_
        rintro w' ⟨nd, rfl⟩
        refine nK hK (uA3 d5).1 fun hHeld => ?_
        clear hK K
        refine pU2 3 4 ?_
        refine pV8 5 6 7 8 9 10 11 12 ?_
        refine pV6 13 14 15 16 17 18 ?_
        refine pU2 19 20 ?_
        refine pV6 21 22 23 24 25 26 ?_
        refine pU2 27 28 ?_
        refine pV6 29 30 31 32 33 34 ?_
        refine pU1 35 ?_
        refine dN ?_
        try go_wp2
        go_meet
        case rel => exact ⟨_, (true), aQ, H', ⟨by have := HJ1.out; have := HK2.out; first | omega | exact Nat.le_refl _⟩, ⟨rB a3.1⟩, ⟨rB d5.1⟩, ⟨nT⟩⟩
      case rest =>
       clear QO
       obtain ⟨kq, FC, rfl, HA, LI, a3, d5, HB⟩ := hcut
       cases kq with
       | zero => exact absurd HA.out (by simp [impl_ShareBookOk.j2])
       | succ kj18 =>
        have H := HA.out
        clear HA
        simp only [impl_ShareBookOk.j2] at H
        refine tC H ?_ ?_ <;> clear H <;> intro Yj H <;> subst Yj
        ·obtain rfl := Option.some.inj H
         repeat clear H
         go_wp2
         go_ret
         exact ⟨eR, nT⟩
        ·obtain ⟨DG, G8, H⟩ := cP H
         obtain ⟨OZ, ZB, H⟩ := cP H
         obtain ⟨nQ, tB, H⟩ := bY H
         have H' := am H
         repeat clear H
         have le := nZ1 jA vH
         have lf := cz2 a3
         have N3 : (bJ : Int) ≤ ((a4.length : Int) : Int) := oT
         obtain ⟨i053, PJ, _, hsz53, _⟩ := info_parts info56
         have hroom53 : a4.length ≤ bD := bM.1
         have hC53 : Kd.C k56 _ (some eG) a4.length a4 := aK.1
         have hcut53 := cut_to (P := Try.prog) 29 56 .i64 Try.underlying29 PJ (some eG) a4.length bD bJ (oT) N3 hroom53
         have UJ := Kd.C_take (m := (bJ : Int).toNat) hC53 (by omega)
         have hy53 : nQ.length = (bJ : Int).toNat := (by rw [tB.out, List.length_take]; omega)
         rw [← tB.out] at UJ
         rw [← hy53] at hcut53
         have NT := am UJ
         have To := am (show nQ.length ≤ bD from by omega)
         clear UJ hC53 hroom53 PJ hsz53
         have KY53 := am hy53
         clear hy53
         replace N3 := eq_true N3
         go_wp2
         go_loopg [79] kj18 (fun kq po w' => ∃ (lY : Int), po = .int .i64 lY ∧ Aside0 (impl_ShareBookOk.l1 kq a4 (a4.length : Int) bJ nQ (nQ.length : Int) lY a7 a4 ((rd_T56 a4 bJ).f0) ((rd_T56 a4 bJ).f1) ((rd_T56 a4 bJ).f2) = some r) ∧ Aside0 (kq ≤ kj18) ∧ Aside0 (w'.heap[a6]? = some (.cells #[(.slice bG a7.length bH), (.slice (some eG) a4.length bD)] 31 (0, 0))) ∧ Aside0 (w'.heap[mG]? = some (.cells #[.string ((rd_T56 a4 bJ).f0), (.slice i9 ((rd_T56 a4 bJ).f1).length iB), (.slice iA ((rd_T56 a4 bJ).f2).length iC)] 56 (0, 0))) ∧ Aside0 (Below w.heap.size w w'))
         case atStart => exact ⟨(0), aQ, H', ⟨Nat.le_refl _⟩, ⟨rB a3.1⟩, ⟨rB d5.1⟩, ⟨nT⟩⟩
         case round =>
          clear H'
          try clear Yj
          try clear DG
          try clear G8
          try clear OZ
          try clear ZB
          try clear N3 N3
          try clear lf
          obtain ⟨lY, rfl, HA, HK4, a3, d5, HB⟩ := hrel
          cases gk with
          | zero => exact absurd HA.out (by simp [impl_ShareBookOk.l1])
          | succ k4 =>
           have H := HA.out
           clear HA
           simp only [impl_ShareBookOk.l1] at H
           refine ic H ?_ ?_ <;> clear H <;> intro Yl H
           obtain ⟨Ym, H⟩ := cN H
           obtain ⟨ZC, H⟩ := cN H
           obtain ⟨lI, Tg, H⟩ := bd H
           refine tC H ?_ ?_ <;> clear H <;> intro Yp H <;> subst Yp
           obtain rfl := Option.some.inj H
           repeat clear H
           obtain ⟨IX, AE, AX, E9, EM, SI, MM, MN, MO, AT, AP, LO, LC, Qq, Rc⟩ := aT56 NT HB lY
           obtain rfl : eG = IX := (by injection SI)
           have R4 := trivial
           have Y0 := trivial
           rotate_left
           have H' := am H
           repeat clear H
           obtain ⟨IX, AE, AX, E9, EM, SI, MM, MN, MO, AT, AP, LO, LC, Qq, Rc⟩ := aT56 NT HB lY
           obtain rfl : eG = IX := (by injection SI)
           have R4 := trivial
           have Y1 := trivial
           rotate_left
           have H' := am H
           repeat clear H
           rotate_left
           all_goals
            go_wp2_with (first | ((with_reducible refine gD 6 ?_); revert R4; intro R4; (try (refine gate_guard (by rfl) ?_; dsimp only)); refine bX 6 #[.string (⟨#[]⟩ : ByteArray), .slice none 0 0, .slice none 0 0] 56 ?_; intro DK hg dp hbox hb; have FJ := am hbox; have X6 := am (Qy : w.heap.size ≤ DK); have X1 := X6; replace HB := bS nT hb; have vF := nL aC hg; have GY := nG aC hg; replace a3 := bB aC hb; have vI := am (by rw [hg]; exact Nat.ne_of_lt (blk_lt (g := mG) (o := .cells #[.string ((rd_T56 a4 bJ).f0), .slice i9 ((rd_T56 a4 bJ).f1).length iB, .slice iA ((rd_T56 a4 bJ).f2).length iC] 56 (0, 0)) (rB d5.1)) : mG ≠ DK); have GZ := am (by rw [hg]; exact Nat.ne_of_gt (blk_lt (g := mG) (o := .cells #[.string ((rd_T56 a4 bJ).f0), .slice i9 ((rd_T56 a4 bJ).f1).length iB, .slice iA ((rd_T56 a4 bJ).f2).length iC] 56 (0, 0)) (rB d5.1)) : DK ≠ mG); replace d5 := am (blk_below (g := mG) (o := .cells #[.string ((rd_T56 a4 bJ).f0), .slice i9 ((rd_T56 a4 bJ).f1).length iB, .slice iA ((rd_T56 a4 bJ).f2).length iC] 56 (0, 0)) (rB d5.1) hb); clear hb hbox hg; have Ue := nZ2 GY vF GZ vI; have Uf := cz3 FJ; have Ug := nZ1 vH jA; have Uh := cz3 d5) | ((with_reducible refine gC 78 ?_); revert Y0; intro Y0; refine cQ (some 87) Try.func78 (impl_common.calls _ _ ((rd_T56 a4 bJ).f1) _ _ ((rd_T56 nQ lY).f1) true _ (Kd.C_below hP.1 DU) hO.1 (Kd.C_below AT.1 DU) AP.1 Tg.out) ?_; rintro dq hb; replace a3 := am (blk_below (g := a6) (o := .cells #[.slice bG a7.length bH, .slice (some eG) a4.length bD] 31 (0, 0)) (qF a3 vF) hb); replace d5 := am (blk_below (g := mG) (o := .cells #[.string ((rd_T56 a4 bJ).f0), .slice i9 ((rd_T56 a4 bJ).f1).length iB, .slice iA ((rd_T56 a4 bJ).f2).length iC] 56 (0, 0)) (qF d5 vI) hb); replace FJ := am (blk_below (g := DK) (o := .cells #[.string ((rd_T56 nQ lY).f0), .slice AE ((rd_T56 nQ lY).f1).length AX, .slice E9 ((rd_T56 nQ lY).f2).length EM] 56 (0, 0)) dg hb); replace HB := bS DU hb; (try clear hb)) | ((with_reducible refine gC 78 ?_); revert Y1; intro Y1; refine cQ (some 87) Try.func78 (impl_common.calls _ _ ((rd_T56 a4 bJ).f1) _ _ ((rd_T56 nQ lY).f1) false _ (Kd.C_below hP.1 DU) hO.1 (Kd.C_below AT.1 DU) AP.1 Tg.out) ?_; rintro dr hb; replace a3 := am (blk_below (g := a6) (o := .cells #[.slice bG a7.length bH, .slice (some eG) a4.length bD] 31 (0, 0)) (qF a3 vF) hb); replace d5 := am (blk_below (g := mG) (o := .cells #[.string ((rd_T56 a4 bJ).f0), .slice i9 ((rd_T56 a4 bJ).f1).length iB, .slice iA ((rd_T56 a4 bJ).f2).length iC] 56 (0, 0)) (qF d5 vI) hb); replace FJ := am (blk_below (g := DK) (o := .cells #[.string ((rd_T56 nQ lY).f0), .slice AE ((rd_T56 nQ lY).f1).length AX, .slice E9 ((rd_T56 nQ lY).f2).length EM] 56 (0, 0)) dg hb); replace HB := bS DU hb; (try clear hb)))
           ·go_ret
            exact ⟨eR, DU⟩
           ·go_roundg k4
            case measure => have := HJ1.out; have := HK2.out; have := LI.out; have := HK4.out; omega
            case rel => exact ⟨(wrap64 (lY + 1)), aQ, H', ⟨by have := HJ1.out; have := HK2.out; have := LI.out; have := HK4.out; omega⟩, ⟨rB a3.1⟩, ⟨rB d5.1⟩, ⟨DU⟩⟩
           ·go_roundg k4
            case measure => have := HJ1.out; have := HK2.out; have := LI.out; have := HK4.out; omega
            case rel => exact ⟨(wrap64 (bJ + 1)), aQ, H', ⟨by have := HJ1.out; have := HK2.out; have := LI.out; have := HK4.out; omega⟩, ⟨rB a3.1⟩, ⟨nT⟩⟩
     ·obtain rfl := Option.some.inj H
      repeat clear H
      go_wp2
      go_ret
      exact ⟨eR, aY⟩
end Go.Proofs.Ytaofjgnhapnndaa.Q
namespace Go.Proofs.Ytaofjgnhapnndaa.Q
open Go.RowKit Go.Proofs.YtaofjgnhapnndaaW.PrintWords Go.Proofs.YtaofjgnhapnndaaW.PrintLast Go.Proofs.YtaofjgnhapnndaaW.PrintMore
set_option linter.unusedVariables false
set_option linter.unusedSimpArgs false
def impl_ShareBook_can.l0 : Nat → Int → List ByteArray → List (S56) → Int → Int → List ByteArray → List (S56) → Option (Bool)
 | 0, _, _, _, _, _, _, _ => none
 | k + 1, b, e, c, g, a, h, d => if a < g then (if 0 ≤ a then (if a < (c.length : Int) then (if a = b then (impl_ShareBook_can.l0 k b e c g (wrap64 (a + 1)) h d) else ((slices_Contains_string_string.f k e ((rd_T56 c a).f0)).bind fun i => (if i = true then (impl_ShareBook_can.l0 k b e c g (wrap64 (a + 1)) h d) else (if 0 ≤ b then (if b < (d.length : Int) then ((impl_common.f ((rd_T56 c a).f1) ((rd_T56 d b).f2)).bind fun j => (if j = true then (some false) else (impl_ShareBook_can.l0 k b e c g (wrap64 (a + 1)) h d))) else (none)) else (none))))) else (none)) else (none)) else (some true)
def impl_ShareBook_can.f (k : Nat) (a7 : List ByteArray) (a4 : List (S56)) (a1 : Int) (l2 : List ByteArray) : Option (Bool) := impl_ShareBook_can.l0 k a1 l2 a4 (a4.length : Int) 0 a7 a4
def impl_ShareBook_can.T4 : Bool × List (List Nat × List Nat) := (true, [([], []), ([], []), ([0, 1], [0, 1]), ([2], [2]), ([3], [3]), ([3], [3]), ([5, 3], [3, 5]), ([4, 6, 3, 3], [3, 4, 6]), ([7, 3], [3, 7]), ([3, 8], [3, 8]), ([9, 7], [9]), ([10], [10]), ([11, 10], [10, 11]), ([10], [10]), ([13, 10], [10, 13]), ([10], [10]), ([14, 15, 10], [10, 14, 15]), ([16, 10], [10, 16]), ([17, 10], [10, 17]), ([12, 18, 10, 10], [10, 12, 18]), ([10, 19], [10, 19])])
def impl_ShareBook_can.B4 : List Nat := [0, 0, 3, 7, 15, 15, 47, 127, 255, 511, 1023, 2047, 4095, 2047, 10239, 2047, 59391, 124927, 255999, 524287, 1048575]
theorem impl_ShareBook_can.tab4 : rtab .any (opsOf Try.f85 4) = impl_ShareBook_can.T4 := by kernel_rfl
theorem impl_ShareBook_can.bits4 : waitsOk impl_ShareBook_can.T4.2 impl_ShareBook_can.B4 = true := by kernel_rfl
theorem impl_ShareBook_can.calls (k : Nat) (bG : Option Addr) (bH : Nat) (a7 : List ByteArray) (bL : Option Addr) (bD : Nat) (a4 : List (S56)) (a1 : Int) (A2 : Option Addr) (c2 : Nat) (l2 : List ByteArray) (r : Bool) (w : World) (cZ : Kd.C Kd.string w bG a7.length a7) (cX : a7.length ≤ bH) (cU : Kd.C k56 w bL a4.length a4) (cY : a4.length ≤ bD) (DR : Kd.C Kd.string w A2 l2.length l2) (DM : l2.length ≤ c2) (h : impl_ShareBook_can.f k a7 a4 a1 l2 = some r) :
  Calls Try.prog 85 #[.agg #[.slice bG a7.length bH, .slice bL a4.length bD], .int .i64 a1, .slice A2 l2.length c2] w fun e w' => e = .returned (.bool r) ∧ Below w.heap.size w w' := by
 have hu31 := Try.underlying31
 have hu56 := Try.underlying56
 obtain ⟨bC, bA⟩ := mZ2 cZ cX
 obtain ⟨aK, bM⟩ := mZ2 cU cY
 obtain ⟨sU, oL⟩ := mZ2 DR DM
 clear cZ cX cU cY DR DM
 have HB := am (Below.refl w.heap.size w)
 unfold impl_ShareBook_can.f at h
 have H := h
 clear h
 have H' := am H
 repeat clear H
 go_enter Try.func85, Try.ntmps85
 go_wp2_with (first | ((with_reducible refine gD 3 ?_); refine bX 3 #[.slice bG a7.length bH, .slice bL a4.length bD] 31 ?_; intro a6 hg w4 hbox hb; have a3 := am hbox; have bR := am (hJ : w.heap.size ≤ a6); have cJ := bR; replace HB := bS cI hb; clear hb hbox hg; have Z5 := cz2 a3))
 go_loopg [12] k (fun kq Dh w' => ∃ (fL : Int), Dh = .int .i64 fL ∧ Aside0 (impl_ShareBook_can.l0 kq a1 l2 a4 (a4.length : Int) fL a7 a4 = some r) ∧ Aside0 (kq ≤ k) ∧ Aside0 (w'.heap[a6]? = some (.cells #[(.slice bG a7.length bH), (.slice bL a4.length bD)] 31 (0, 0))) ∧ Aside0 (Below w.heap.size w w'))
 case atStart => exact ⟨(0), aQ, H', ⟨Nat.le_refl _⟩, ⟨rB a3.1⟩, ⟨aY⟩⟩
 clear H'
 try clear c2
 try clear Z5
 obtain ⟨fL, rfl, HA, HK1, a3, HB⟩ := hrel
 cases gk with
 | zero => exact absurd HA.out (by simp [impl_ShareBook_can.l0])
 | succ k1 =>
  have H := HA.out
  clear HA
  simp only [impl_ShareBook_can.l0] at H
  refine ic H ?_ ?_ <;> clear H <;> intro sC H
  obtain ⟨AZ, H⟩ := cN H
  obtain ⟨sD, H⟩ := cN H
  refine iq H ?_ ?_ <;> clear H <;> intro c9 vQ JB H
  have H' := am H
  repeat clear H
  obtain ⟨fA, iO, iU, iP, iV, iE, f7, fQ, fT, g7, fZ, j7, j5, oF, oH⟩ := aT56 aK HB fL
  cases iE
  have IK := trivial
  rotate_left
  obtain ⟨aN, EB, H⟩ := bd H
  refine tC H ?_ ?_ <;> clear H <;> intro DC H <;> subst DC
  have H' := am H
  repeat clear H
  obtain ⟨fA, iO, iU, iP, iV, iE, f7, fQ, fT, g7, fZ, j7, j5, oF, oH⟩ := aT56 aK HB fL
  cases iE
  have IK := trivial
  rotate_left
  obtain ⟨OR, H⟩ := cN H
  obtain ⟨Xu, H⟩ := cN H
  obtain ⟨bT, Sz, H⟩ := bd H
  refine tC H ?_ ?_ <;> clear H <;> intro OS H <;> subst OS
  obtain rfl := Option.some.inj H
  repeat clear H
  obtain ⟨fA, iO, iU, iP, iV, iE, f7, fQ, fT, g7, fZ, j7, j5, oF, oH⟩ := aT56 aK HB fL
  cases iE
  have IK := trivial
  rotate_left
  have H' := am H
  repeat clear H
  obtain ⟨fA, iO, iU, iP, iV, iE, f7, fQ, fT, g7, fZ, j7, j5, oF, oH⟩ := aT56 aK HB fL
  cases iE
  have IK := trivial
  rotate_left
  obtain rfl := Option.some.inj H
  repeat clear H
  rotate_left
  all_goals
   try go_wp2_with (first | ((with_reducible refine gD 8 ?_); revert IK; intro IK; refine bX 8 #[.string (⟨#[]⟩ : ByteArray), .slice none 0 0, .slice none 0 0] 56 ?_; intro iK hg GT hbox hb; have dQ := am hbox; have CZ := am (p3 : w.heap.size ≤ iK); have sJ := CZ; replace HB := bS aY hb; have lC := nL aC hg; have gV := nG aC hg; replace a3 := bB aC hb; clear hb hbox hg; have Ui := nZ1 gV lC; have Uj := cz3 dQ))
  ·obtain ⟨KD, eW_⟩ := eW3 GT iK (.string ((rd_T56 a4 fL).f0)) (.slice iO ((rd_T56 a4 fL).f1).length iU) (.slice iP ((rd_T56 a4 fL).f2).length iV)
   rw [← eW_]
   replace a3 := uF3 eW_ a3 lC
   replace dQ := uP3 eW_ dQ
   replace HB := uC3 eW_ HB sJ
   clear eW_
   replace a3 := BD a3
   replace dQ := BD dQ
   replace HB := am (below_drew1 HB.1)
   refine sT (S := fun w' => True) [] 21 ⟨trivial⟩ (fun hHeld => ?_)
   refine with_tabW impl_ShareBook_can.tab4 impl_ShareBook_can.bits4 (fun HT_ HW_ => ?_)
   generalize KD.drew = GS at a3 dQ HB hHeld ⊢
   refine pU4 0 1 2 3 ?_
   refine pV5 4 5 6 7 8 ?_
   refine pU2 9 10 ?_
   refine pV8 11 12 13 14 15 16 17 18 ?_
   refine pV1 19 ?_
   refine pU1 20 ?_
   refine dN ?_
   try go_wp2
   go_roundg k1
   case measure => have := HK1.out; omega
   case rel => exact ⟨(wrap64 (fL + 1)), aQ, H', ⟨by have := HK1.out; omega⟩, ⟨rB a3.1⟩, ⟨yW⟩⟩
  ·obtain ⟨KE, eW_⟩ := eW3 GT iK (.string ((rd_T56 a4 fL).f0)) (.slice iO ((rd_T56 a4 fL).f1).length iU) (.slice iP ((rd_T56 a4 fL).f2).length iV)
   rw [← eW_]
   replace a3 := uF3 eW_ a3 lC
   replace dQ := uP3 eW_ dQ
   replace HB := uC3 eW_ HB sJ
   clear eW_
   replace a3 := BD a3
   replace dQ := BD dQ
   replace HB := am (below_drew1 HB.1)
   refine sT [] 21 (uA3 dQ) (fun hHeld => ?_)
   refine with_tabW impl_ShareBook_can.tab4 impl_ShareBook_can.bits4 (fun HT_ HW_ => ?_)
   generalize KE.drew = HT at a3 dQ HB hHeld ⊢
   refine pU6 0 1 2 3 4 5 ?_
   refine tK3 6 (some 23) ?_
   refine oN 7 (some 24) fun K hK => ?_
   refine gQ Try.func81 (slices_Contains_string_string.calls k1 _ _ l2 ((rd_T56 a4 fL).f0) true _ (pB sU) oL.1 EB.out) ?_
   rintro w' ⟨nd, rfl⟩
   refine nK hK (uA3 dQ).1 fun hHeld => ?_
   clear hK K
   refine pU3 8 9 10 ?_
   refine pV8 11 12 13 14 15 16 17 18 ?_
   refine pV1 19 ?_
   refine pU1 20 ?_
   refine dN ?_
   try go_wp2
   go_roundg k1
   case measure => have := HK1.out; omega
   case rel => exact ⟨(wrap64 (fL + 1)), aQ, H', ⟨by have := HK1.out; omega⟩, ⟨rB a3.1⟩, ⟨yW⟩⟩
  ·obtain ⟨dy, eW_⟩ := eW3 GT iK (.string ((rd_T56 a4 fL).f0)) (.slice iO ((rd_T56 a4 fL).f1).length iU) (.slice iP ((rd_T56 a4 fL).f2).length iV)
   rw [← eW_]
   replace a3 := uF3 eW_ a3 lC
   replace dQ := uP3 eW_ dQ
   replace HB := uC3 eW_ HB sJ
   clear eW_
   replace a3 := BD a3
   replace dQ := BD dQ
   replace HB := am (below_drew1 HB.1)
   obtain ⟨oV, vC, vO, vD, vP, vR, pN, pO, pP, o9, oA, oB, o8, rH, gR, iH, HE, yY⟩ := aTw56 aK HB a1
   obtain rfl : fA = oV := (by injection vR)
   refine sT [] 21 (uB3 dQ (uB2 a3 (uBx HB pN (uBx HB pO (uAx HB pP))))) (fun hHeld => ?_)
   refine with_tabW impl_ShareBook_can.tab4 impl_ShareBook_can.bits4 (fun HT_ HW_ => ?_)
   generalize dy.drew = Do at a3 dQ HB o8 gR o9 oA oB hHeld ⊢
   refine pU6 0 1 2 3 4 5 ?_
   refine tK8 6 (some 23) ?_
   refine oN 7 (some 24) fun K hK => ?_
   refine gQ Try.func81 (slices_Contains_string_string.calls k1 _ _ l2 ((rd_T56 a4 fL).f0) false _ (pB sU) oL.1 EB.out) ?_
   rintro w' ⟨nd, rfl⟩
   refine nK hK (uB3 dQ (uB2 a3 (uBx HB pN (uBx HB pO (uAx HB pP))))).1 fun hHeld => ?_
   clear hK K
   refine pU6 8 9 10 11 13 15 ?_
   refine tK8 12 (some 29) ?_
   refine tK8 14 (some 31) ?_
   refine pU2 16 17 ?_
   refine tK8 18 (some 35) ?_
   refine oN 19 (some 36) fun K hK => ?_
   refine gQ Try.func78 (impl_common.calls _ _ ((rd_T56 a4 fL).f1) _ _ ((rd_T56 a4 a1).f2) true _ (pC (Kd.C_below g7.1 yW)) fZ.1 (pC (Kd.C_below gR.1 yW)) iH.1 Sz.out) ?_
   rintro Ks hb
   replace a3 := bB aC hb
   replace dQ := bB yX hb
   replace HB := bS yW hb
   (try clear hb)
   (try clear hb2)
   (try clear hk)
   (try clear hi)
   refine nK hK (uB3 dQ (uB2 a3 (uBx HB pN (uBx HB pO (uAx HB pP))))).1 fun hHeld => ?_
   clear hK K
   refine pU1 20 ?_
   refine dN ?_
   try go_wp2
   go_ret
   exact ⟨eR, yW⟩
  ·obtain ⟨N9, eW_⟩ := eW3 GT iK (.string ((rd_T56 a4 fL).f0)) (.slice iO ((rd_T56 a4 fL).f1).length iU) (.slice iP ((rd_T56 a4 fL).f2).length iV)
   rw [← eW_]
   replace a3 := uF3 eW_ a3 lC
   replace dQ := uP3 eW_ dQ
   replace HB := uC3 eW_ HB sJ
   clear eW_
   replace a3 := BD a3
   replace dQ := BD dQ
   replace HB := am (below_drew1 HB.1)
   obtain ⟨oV, vC, vO, vD, vP, vR, pN, pO, pP, o9, oA, oB, o8, rH, gR, iH, HE, yY⟩ := aTw56 aK HB a1
   obtain rfl : fA = oV := (by injection vR)
   refine sT [] 21 (uB3 dQ (uB2 a3 (uBx HB pN (uBx HB pO (uAx HB pP))))) (fun hHeld => ?_)
   refine with_tabW impl_ShareBook_can.tab4 impl_ShareBook_can.bits4 (fun HT_ HW_ => ?_)
   generalize N9.drew = NA at a3 dQ HB o8 gR o9 oA oB hHeld ⊢
   refine pU6 0 1 2 3 4 5 ?_
   refine tK8 6 (some 23) ?_
   refine oN 7 (some 24) fun K hK => ?_
   refine gQ Try.func81 (slices_Contains_string_string.calls k1 _ _ l2 ((rd_T56 a4 fL).f0) false _ (pB sU) oL.1 EB.out) ?_
   rintro w' ⟨nd, rfl⟩
   refine nK hK (uB3 dQ (uB2 a3 (uBx HB pN (uBx HB pO (uAx HB pP))))).1 fun hHeld => ?_
   clear hK K
   refine pU6 8 9 10 11 13 15 ?_
   refine tK8 12 (some 29) ?_
   refine tK8 14 (some 31) ?_
   refine pU2 16 17 ?_
   refine tK8 18 (some 35) ?_
   refine oN 19 (some 36) fun K hK => ?_
   refine gQ Try.func78 (impl_common.calls _ _ ((rd_T56 a4 fL).f1) _ _ ((rd_T56 a4 a1).f2) false _ (pC (Kd.C_below g7.1 yW)) fZ.1 (pC (Kd.C_below gR.1 yW)) iH.1 Sz.out) ?_
   rintro NB hb
   replace a3 := bB aC hb
   replace dQ := bB yX hb
   replace HB := bS yW hb
   (try clear hb)
   (try clear hb2)
   (try clear hk)
   (try clear hi)
   refine nK hK (uB3 dQ (uB2 a3 (uBx HB pN (uBx HB pO (uAx HB pP))))).1 fun hHeld => ?_
   clear hK K
   refine pU1 20 ?_
   refine dN ?_
   try go_wp2
   go_roundg k1
   case measure => have := HK1.out; omega
   case rel => exact ⟨(wrap64 (fL + 1)), aQ, H', ⟨by have := HK1.out; omega⟩, ⟨rB a3.1⟩, ⟨yW⟩⟩
  ·go_ret
   exact ⟨eR, aY⟩
def impl_ShareMoves.l0 : Nat → List ByteArray → List (S56) → Int → Int → List ByteArray → List (S56) → Option (List ByteArray)
 | 0, _, _, _, _, _, _ => none
 | k + 1, b, c, d, a, e, g => if a < d then (if 0 ≤ a then (if a < (c.length : Int) then ((impl_ShareBook_can.f k e g a ([] : List ByteArray)).bind fun h => (if h = true then (if b.length < 8796093022208 then (impl_ShareMoves.l0 k (b ++ [(rd_T56 c a).f0]) c d (wrap64 (a + 1)) e g) else (none)) else (impl_ShareMoves.l0 k b c d (wrap64 (a + 1)) e g))) else (none)) else (none)) else (some b)
def impl_ShareMoves.f (k : Nat) (a7 : List ByteArray) (a4 : List (S56)) : Option (List ByteArray) := (impl_ShareBookOk.f k a7 a4).bind fun a => (if a = true then (impl_ShareMoves.l0 k (([] : List ByteArray)) a4 (a4.length : Int) 0 a7 a4) else (some ([] : List ByteArray)))
theorem impl_ShareMoves.calls (k : Nat) (bG : Option Addr) (bH : Nat) (a7 : List ByteArray) (bL : Option Addr) (bD : Nat) (a4 : List (S56)) (r : List ByteArray) (w : World) (cZ : Kd.C Kd.string w bG a7.length a7) (cX : a7.length ≤ bH) (cU : Kd.C k56 w bL a4.length a4) (cY : a4.length ≤ bD) (h : impl_ShareMoves.f k a7 a4 = some r) :
  Calls Try.prog 43 #[.agg #[.slice bG a7.length bH, .slice bL a4.length bD]] w fun e w' => ∃ v0_ : Value, e = .returned (v0_) ∧ Kd.R Kd.string 9 w' w.heap.size (fun _ => True) v0_ r ∧ Below w.heap.size w w' := by
 have hu31 := Try.underlying31
 have hu56 := Try.underlying56
 obtain ⟨bC, bA⟩ := mZ2 cZ cX
 obtain ⟨aK, bM⟩ := mZ2 cU cY
 clear cZ cX cU cY
 have HB := am (Below.refl w.heap.size w)
 unfold impl_ShareMoves.f at h
 have H := h
 clear h
 obtain ⟨eB, A2, H⟩ := bd H
 refine tC H ?_ ?_ <;> clear H <;> intro c3 H <;> subst c3
 obtain ⟨qC, hy103⟩ : ∃ y_ : List ByteArray, y_ = (([] : List ByteArray)) := ⟨_, rfl⟩
 replace H : (impl_ShareMoves.l0 k qC a4 (a4.length : Int) 0 a7 a4) = some r := by first | (rw [hy103]; with_reducible exact H) | (have H2_ := (Option.bind_some _ _).symm.trans H; rw [hy103]; with_reducible exact H2_) | (have H2_ := (Option.bind_some _ _).symm.trans H; with_reducible exact H2_) | with_reducible exact H | (rw [hy103]; exact H) | exact H
 have sM := am hy103
 clear hy103
 have H' := am H
 repeat clear H
 have LR := trivial
 rotate_left
 obtain rfl := Option.some.inj H
 repeat clear H
 have Y2 := trivial
 rotate_left
 all_goals
  go_enter Try.func43, Try.ntmps43
  go_wp2_with (first | ((with_reducible refine gD 1 ?_); refine bX 1 #[.slice bG a7.length bH, .slice bL a4.length bD] 31 ?_; intro a6 hg dt hbox hb; have a3 := am hbox; have bR := am (hJ : w.heap.size ≤ a6); have cJ := bR; replace HB := bS cI hb; clear hb hbox hg; have YA := cz2 a3) | ((with_reducible refine gC 24 ?_); revert LR; intro LR; refine cQ (some 7) Try.func24 (impl_ShareBookOk.calls k _ _ a7 _ _ a4 true _ (pB bC) bA.1 (pB aK) bM.1 A2.out) ?_; rintro du hb; replace a3 := bB aC hb; replace HB := bS aY hb; (try clear hb)) | ((with_reducible refine gate_dst (N := 9) rfl ?_); revert LR; intro LR; refine lS 9 9 sM ?_; intro nO dv PM hb; have eE := am (Kd.R_lower PM (below_size aY)); replace a3 := bB aC hb; replace HB := bS aY hb; clear hb PM; have YB := cz2 a3) | ((with_reducible refine gC 24 ?_); revert Y2; intro Y2; refine cQ (some 7) Try.func24 (impl_ShareBookOk.calls k _ _ a7 _ _ a4 false _ (pB bC) bA.1 (pB aK) bM.1 A2.out) ?_; rintro dw hb; replace a3 := bB aC hb; replace HB := bS aY hb; (try clear hb)))
 ·go_loopg [3, 13] k (fun kq v3 ot w' => ∃ (dI : List ByteArray) (jR : Int), ot = .int .i64 jR ∧ Aside0 (impl_ShareMoves.l0 kq dI a4 (a4.length : Int) jR a7 a4 = some r) ∧ Aside0 (kq ≤ k) ∧ Aside0 (Kd.R Kd.string 9 w' w.heap.size (fun _ => True) v3 dI) ∧ Aside0 (w'.heap[a6]? = some (.cells #[(.slice bG a7.length bH), (.slice bL a4.length bD)] 31 (0, 0))) ∧ Aside0 (Below w.heap.size w w'))
  case atStart => exact ⟨(qC), (0), aQ, H', ⟨Nat.le_refl _⟩, ⟨rR eE.1⟩, ⟨rB a3.1⟩, ⟨aY⟩⟩
  clear H'
  try clear c3
  try clear YA
  try clear YB
  obtain ⟨dI, jR, rfl, HA, HK1, m4, a3, HB⟩ := hrel
  cases gk with
  | zero => exact absurd HA.out (by simp [impl_ShareMoves.l0])
  | succ k1 =>
   have H := HA.out
   clear HA
   simp only [impl_ShareMoves.l0] at H
   refine ic H ?_ ?_ <;> clear H <;> intro n9 H
   obtain ⟨qH, H⟩ := cN H
   obtain ⟨tD, H⟩ := cN H
   obtain ⟨eV, Sy, H⟩ := bd H
   refine tC H ?_ ?_ <;> clear H <;> intro G7 H <;> subst G7
   obtain ⟨XB, H⟩ := cL H
   obtain ⟨NH, y8⟩ := yv (dI ++ [(rd_T56 a4 jR).f0]); first | replace H := bW y8 H | rw [← y8.1] at H
   have H' := am H
   repeat clear H
   obtain ⟨l9, jI, jK, kF, kR, pI, iL, kX, kY, kO, o0, kP, o1, wR, sF⟩ := aT56 aK HB jR
   cases pI
   have R5 := trivial
   have LS := trivial
   rotate_left
   have H' := am H
   repeat clear H
   obtain ⟨l9, jI, jK, kF, kR, pI, iL, kX, kY, kO, o0, kP, o1, wR, sF⟩ := aT56 aK HB jR
   cases pI
   have R5 := trivial
   have Y3 := trivial
   rotate_left
   obtain rfl := Option.some.inj H
   repeat clear H
   rotate_left
   all_goals
    go_wp2_with (first | ((with_reducible refine gD 5 ?_); revert R5; intro R5; refine bX 5 #[.string (⟨#[]⟩ : ByteArray), .slice none 0 0, .slice none 0 0] 56 ?_; intro eW hg dx hbox hb; replace m4 := RB uS hb; have b8 := am hbox; have qU := am (p3 : w.heap.size ≤ eW); have wB := qU; replace HB := bS aY hb; have fG := nL aC hg; have jB := nG aC hg; replace a3 := bB aC hb; clear hb hbox hg; have Um := nZ1 jB fG; have Un := cz3 b8; have Uo := cz2 a3) | ((with_reducible refine gC 85 ?_); revert LS; intro LS; refine cQ (some 20) Try.func85 (impl_ShareBook_can.calls k1 _ _ a7 _ _ a4 jR _ _ ([] : List ByteArray) true _ (Kd.C_below bC.1 lH) bA.1 (Kd.C_below aK.1 lH) bM.1 (Kd.C_nil _ _) (Nat.le_refl _) Sy.out) ?_; rintro dz hb; replace m4 := am (Kd.R_below (by refine rR ?_; exact (Kd.R_mono (fR (fR (fR (tR m4 b8)))) (fun _ h_ => h_.1))) hb); replace a3 := am (blk_below (g := a6) (o := .cells #[.slice bG a7.length bH, .slice (some l9) a4.length bD] 31 (0, 0)) Cs hb); replace b8 := am (blk_below (g := eW) (o := .cells #[.string ((rd_T56 a4 jR).f0), .slice jI ((rd_T56 a4 jR).f1).length jK, .slice kF ((rd_T56 a4 jR).f2).length kR] 56 (0, 0)) dh hb); replace HB := bS lH hb; (try clear hb); (try clear hk); have Up := cz3 b8) | ((with_reducible refine gate_builtin (b := .append) (xs := #[.tmp 21, .tmp 24]) rfl ?_); revert LS; intro LS; at_builtin; refine Kd.R_append Kd.string (w0 := w) w.heap.size rfl (.tmp 21) (.tmp 24) 23 9 (.string ⟨#[]⟩) 16 rfl Try.underlying23 info9 rfl (by decide) (by omega) u3 dI ((rd_T56 a4 jR).f0) [.string ((rd_T56 a4 jR).f0)] (fun _ => True) (fun _ => False) rfl rfl ?aP (fun _ hk => hk.elim) ?aF ?aO ?aB ?aS ?aL ?_; (case aP => exact rfl); (case aB => exact lH); (case aF => exact (fun _ _ => trivial)); (case aO => exact uS); (case aS => exact (below_size lH)); (case aL => have := XB.out; omega); intro KB ea ho hb hg hat; rw [← y8.out] at ho; replace a3 := gkR aC hg m4 a3; replace b8 := gkR hZ hg m4 b8; replace HB := am hb; have mC := am ho; clear m4; clear ho hb hg hat) | ((with_reducible refine gC 85 ?_); revert Y3; intro Y3; refine cQ (some 20) Try.func85 (impl_ShareBook_can.calls k1 _ _ a7 _ _ a4 jR _ _ ([] : List ByteArray) false _ (Kd.C_below bC.1 lH) bA.1 (Kd.C_below aK.1 lH) bM.1 (Kd.C_nil _ _) (Nat.le_refl _) Sy.out) ?_; rintro ec hb; replace m4 := am (Kd.R_below (by refine rR ?_; exact (Kd.R_mono (fR (fR (fR (tR m4 b8)))) (fun _ h_ => h_.1))) hb); replace a3 := am (blk_below (g := a6) (o := .cells #[.slice bG a7.length bH, .slice (some l9) a4.length bD] 31 (0, 0)) Cs hb); replace b8 := am (blk_below (g := eW) (o := .cells #[.string ((rd_T56 a4 jR).f0), .slice jI ((rd_T56 a4 jR).f1).length jK, .slice kF ((rd_T56 a4 jR).f2).length kR] 56 (0, 0)) dh hb); replace HB := bS lH hb; (try clear hb); (try clear hk)))
   ·go_roundg k1
    case measure => have := HK1.out; omega
    case rel => exact ⟨(NH), (wrap64 (jR + 1)), aQ, H', ⟨by have := HK1.out; omega⟩, ⟨rR mC.1⟩, ⟨rB a3.1⟩, ⟨lH⟩⟩
   ·go_roundg k1
    case measure => have := HK1.out; omega
    case rel => exact ⟨(dI), (wrap64 (jR + 1)), aQ, H', ⟨by have := HK1.out; omega⟩, ⟨rR m4.1⟩, ⟨rB a3.1⟩, ⟨lH⟩⟩
   ·go_ret
    exact ⟨_, eR, rR m4.1, aY⟩
 go_ret
 exact ⟨_, eR, by first | exact Kd.R_nil _ _ _ _ _ | exact Kd.N_nil _ _ _ _ _ | exact Kd.V_nil _ _ _ _ _ | exact Kd.Q_nil _ _ _ _ _ | exact Kd.S_nil _ _ _ _ _, aY⟩
def impl_ShareStuck.f (k : Nat) (a7 : List ByteArray) (a4 : List (S56)) : Option (Bool) := (impl_ShareBookOk.f k a7 a4).bind fun a => (if a = true then (if (a4.length : Int) > 0 then ((impl_ShareMoves.f k a7 a4).bind fun b => (some ((b.length : Int) == 0))) else (some false)) else (some false))
theorem impl_ShareStuck.calls (k : Nat) (bG : Option Addr) (bH : Nat) (a7 : List ByteArray) (bL : Option Addr) (bD : Nat) (a4 : List (S56)) (r : Bool) (w : World) (cZ : Kd.C Kd.string w bG a7.length a7) (cX : a7.length ≤ bH) (cU : Kd.C k56 w bL a4.length a4) (cY : a4.length ≤ bD) (h : impl_ShareStuck.f k a7 a4 = some r) :
  Calls Try.prog 29 #[.agg #[.slice bG a7.length bH, .slice bL a4.length bD]] w fun e w' => e = .returned (.bool r) ∧ Below w.heap.size w w' := by
 have hu31 := Try.underlying31
 obtain ⟨bC, bA⟩ := mZ2 cZ cX
 obtain ⟨aK, bM⟩ := mZ2 cU cY
 clear cZ cX cU cY
 have HB := am (Below.refl w.heap.size w)
 unfold impl_ShareStuck.f at h
 have H := h
 clear h
 obtain ⟨eB, A2, H⟩ := bd H
 refine tC H ?_ ?_ <;> clear H <;> intro c3 H <;> subst c3
 by_cases c4 : (a4.length : Int) > 0
 rw [if_pos c4] at H
 have jE : decide (0 < (a4.length : Int)) = true := decide_eq_true c4
 have yS : decide (0 < a4.length) = true := decide_eq_true (by omega)
 clear c4
 obtain ⟨bE, A5, H⟩ := bd H
 obtain rfl := Option.some.inj H
 repeat clear H
 have R6 := trivial
 have Y4 := trivial
 rotate_left
 rw [if_neg c4] at H
 have jE : decide (0 < (a4.length : Int)) = false := decide_eq_false c4
 have yS : decide (0 < a4.length) = false := decide_eq_false (by omega)
 clear c4
 obtain rfl := Option.some.inj H
 repeat clear H
 have R6 := trivial
 rotate_left
 obtain rfl := Option.some.inj H
 repeat clear H
 have Y5 := trivial
 rotate_left
 all_goals
  go_enter Try.func29, Try.ntmps29
  go_wp2_with (first | ((with_reducible refine gD 1 ?_); (try (refine gate_guard (by rfl) ?_; dsimp only)); refine bX 1 #[.slice bG a7.length bH, .slice bL a4.length bD] 31 ?_; intro a6 hg ed hbox hb; have a3 := am hbox; have bR := am (hJ : w.heap.size ≤ a6); have cJ := bR; replace HB := bS cI hb; clear hb hbox hg; have Ur := cz2 a3) | ((with_reducible refine gC 24 ?_); revert R6; intro R6; refine cQ (some 4) Try.func24 (impl_ShareBookOk.calls k _ _ a7 _ _ a4 true _ (pB bC) bA.1 (pB aK) bM.1 A2.out) ?_; rintro ef hb; replace a3 := bB aC hb; replace HB := bS aY hb; (try clear hb); have Us := cz2 a3) | (go_at_call 43; revert Y4; intro Y4; (with_reducible refine (impl_ShareMoves.calls k _ _ a7 _ _ a4 bE _ ?side1 ?side2 ?side3 ?side4 A5.out).mono ?_); (case side1 => exact pC (Kd.C_below bC.1 HB.1)); (case side2 => exact bA.1); (case side3 => exact pC (Kd.C_below aK.1 HB.1)); (case side4 => exact bM.1); rintro e eh ⟨nO, rfl, bQ, hb⟩; have eE := am (Kd.R_lower bQ (below_size aY)); replace a3 := bB aC hb; replace HB := bS aY hb; (try clear hb); (try clear bQ); obtain ⟨Lp, Ns, SR⟩ := Kd.R_slice eE.1; subst SR) | ((with_reducible refine gC 24 ?_); revert Y5; intro Y5; refine cQ (some 4) Try.func24 (impl_ShareBookOk.calls k _ _ a7 _ _ a4 false _ (pB bC) bA.1 (pB aK) bM.1 A2.out) ?_; rintro ei hb; replace a3 := bB aC hb; replace HB := bS aY hb; (try clear hb)))
 ·go_ret
  exact ⟨eR, aY⟩
 ·go_ret
  exact ⟨eR, aY⟩
 go_ret
 exact ⟨eR, aY⟩
mutual
def impl_ShareOrder.l0 : Nat → List ByteArray → List ByteArray → List (S56) → Option (List ByteArray × Bool)
 | 0, _, _, _ => none
 | k + 1, a, c, b => if (a.length : Int) < (b.length : Int) then (impl_ShareOrder.l1 k a (a.length : Int) b (b.length : Int) 0 c b) else (some (a, true))
def impl_ShareOrder.l1 : Nat → List ByteArray → Int → List (S56) → Int → Int → List ByteArray → List (S56) → Option (List ByteArray × Bool)
 | 0, _, _, _, _, _, _, _ => none
 | k + 1, a, g, c, h, b, d, e => if b < h then (if 0 ≤ b then (if b < (c.length : Int) then ((slices_Contains_string_string.f k a ((rd_T56 c b).f0)).bind fun j => (if j = true then (impl_ShareOrder.l1 k a g c h (wrap64 (b + 1)) d e) else ((impl_ShareBook_can.f k d e b a).bind fun l => (if l = true then (if a.length < 8796093022208 then ((some (a ++ [(rd_T56 c b).f0] : List ByteArray)).bind fun i => (if (i.length : Int) = g then (some (([] : List ByteArray), false)) else (impl_ShareOrder.l0 k i d e))) else (none)) else (impl_ShareOrder.l1 k a g c h (wrap64 (b + 1)) d e))))) else (none)) else (none)) else (if (a.length : Int) = g then (some (([] : List ByteArray), false)) else (impl_ShareOrder.l0 k a d e))
end
def impl_ShareOrder.f (k : Nat) (a7 : List ByteArray) (a4 : List (S56)) : Option (List ByteArray × Bool) := (impl_ShareBookOk.f k a7 a4).bind fun a => (if a = true then (impl_ShareOrder.l0 k (([] : List ByteArray)) a7 a4) else (some (([] : List ByteArray), false)))
theorem impl_ShareOrder.calls (k : Nat) (bG : Option Addr) (bH : Nat) (a7 : List ByteArray) (bL : Option Addr) (bD : Nat) (a4 : List (S56)) (r1 : List ByteArray) (r2 : Bool) (w : World) (cZ : Kd.C Kd.string w bG a7.length a7) (cX : a7.length ≤ bH) (cU : Kd.C k56 w bL a4.length a4) (cY : a4.length ≤ bD) (h : impl_ShareOrder.f k a7 a4 = some (r1, r2)) :
  Calls Try.prog 45 #[.agg #[.slice bG a7.length bH, .slice bL a4.length bD]] w fun e w' => ∃ v0_ : Value, e = .returned (.tuple #[v0_, .bool r2]) ∧ Kd.R Kd.string 9 w' w.heap.size (fun _ => True) v0_ r1 ∧ Below w.heap.size w w' := by
 have hu31 := Try.underlying31
 have hu56 := Try.underlying56
 obtain ⟨bC, bA⟩ := mZ2 cZ cX
 obtain ⟨aK, bM⟩ := mZ2 cU cY
 clear cZ cX cU cY
 have HB := am (Below.refl w.heap.size w)
 unfold impl_ShareOrder.f at h
 have H := h
 clear h
 obtain ⟨eB, A2, H⟩ := bd H
 refine tC H ?_ ?_ <;> clear H <;> intro c3 H <;> subst c3
 ·obtain ⟨qC, hy103⟩ : ∃ y_ : List ByteArray, y_ = (([] : List ByteArray)) := ⟨_, rfl⟩
  replace H : (impl_ShareOrder.l0 k qC a7 a4) = some (r1, r2) := by first | (rw [hy103]; with_reducible exact H) | (have H2_ := (Option.bind_some _ _).symm.trans H; rw [hy103]; with_reducible exact H2_) | (have H2_ := (Option.bind_some _ _).symm.trans H; with_reducible exact H2_) | with_reducible exact H | (rw [hy103]; exact H) | exact H
  have sM := am hy103
  clear hy103
  have H' := am H
  repeat clear H
  go_enter Try.func45, Try.ntmps45
  go_wp2_with (first | ((with_reducible refine gD 1 ?_); refine bX 1 #[.slice bG a7.length bH, .slice bL a4.length bD] 31 ?_; intro a6 hg w4 hbox hb; have a3 := am hbox; have bR := am (hJ : w.heap.size ≤ a6); have cJ := bR; replace HB := bS cI hb; clear hb hbox hg; have Z5 := cz2 a3) | ((with_reducible refine gC 24 ?_); refine cQ (some 9) Try.func24 (impl_ShareBookOk.calls k _ _ a7 _ _ a4 true _ (pB bC) bA.1 (pB aK) bM.1 A2.out) ?_; rintro w6 hb; replace a3 := bB aC hb; replace HB := bS aY hb; (try clear hb)) | ((with_reducible refine gate_dst (N := 11) rfl ?_); refine lS 9 11 sM ?_; intro nO w7 PM hb; have eE := am (Kd.R_lower PM (below_size aY)); replace a3 := bB aC hb; replace HB := bS aY hb; clear hb PM))
  go_loopg [4] k (fun kq v4 w' => ∃ (dP : List ByteArray), Aside0 (impl_ShareOrder.l0 kq dP a7 a4 = some (r1, r2)) ∧ Aside0 (kq ≤ k) ∧ Aside0 (Kd.R Kd.string 9 w' w.heap.size (fun _ => True) v4 dP) ∧ Aside0 (w'.heap[a6]? = some (.cells #[(.slice bG a7.length bH), (.slice bL a4.length bD)] 31 (0, 0))) ∧ Aside0 (Below w.heap.size w w'))
  case atStart => exact ⟨(qC), H', ⟨Nat.le_refl _⟩, ⟨rR eE.1⟩, ⟨rB a3.1⟩, ⟨aY⟩⟩
  clear H'
  try clear c3
  try clear Z5
  obtain ⟨dP, HA, HK1, eC, a3, HB⟩ := hrel
  cases gk with
  | zero => exact absurd HA.out (by simp [impl_ShareOrder.l0])
  | succ k1 =>
   have H := HA.out
   clear HA
   simp only [impl_ShareOrder.l0] at H
   by_cases c9 : (dP.length : Int) < (a4.length : Int)
   ·rw [if_pos c9] at H
    have vQ : decide ((dP.length : Int) < (a4.length : Int)) = true := decide_eq_true c9
    have JB : decide (dP.length < a4.length) = true := decide_eq_true (Int.ofNat_lt.mp c9)
    clear c9
    have H' := am H
    repeat clear H
    obtain ⟨WM, ZO, SO⟩ := Kd.R_slice eC.1
    subst SO
    have LT := cz2 a3
    go_wp2
    go_loopg [4, 23] k1 (fun kq v4 Sa w' => ∃ (iZ : List ByteArray) (dA : Int), Sa = .int .i64 dA ∧ Aside0 (impl_ShareOrder.l1 kq iZ (dP.length : Int) a4 (a4.length : Int) dA a7 a4 = some (r1, r2)) ∧ Aside0 (kq ≤ k1) ∧ Aside0 (Kd.R Kd.string 9 w' w.heap.size (fun _ => True) v4 iZ) ∧ Aside0 (w'.heap[a6]? = some (.cells #[(.slice bG a7.length bH), (.slice bL a4.length bD)] 31 (0, 0))) ∧ Aside0 (Below w.heap.size w w'))
    case atStart => exact ⟨(dP), (0), aQ, H', ⟨Nat.le_refl _⟩, ⟨rR eC.1⟩, ⟨rB a3.1⟩, ⟨aY⟩⟩
    case round =>
     clear H'
     try clear c3
     try clear c9
     try clear vQ
     try clear JB
     try clear LT
     try clear Z5
     obtain ⟨iZ, dA, rfl, HA, HK2, eC, a3, HB⟩ := hrel
     cases gk with
     | zero => exact absurd HA.out (by simp [impl_ShareOrder.l1])
     | succ k2 =>
      have H := HA.out
      clear HA
      simp only [impl_ShareOrder.l1] at H
      refine ic H ?_ ?_ <;> clear H <;> intro tD H
      ·obtain ⟨zP, H⟩ := cN H
       obtain ⟨DA, H⟩ := cN H
       obtain ⟨eV, EB, H⟩ := bd H
       refine tC H ?_ ?_ <;> clear H <;> intro DC H <;> subst DC
       ·have H' := am H
        repeat clear H
        obtain ⟨l9, jI, jK, kF, kR, pI, iL, kX, kY, kO, o0, kP, o1, wR, sF⟩ := aT56 aK HB dA
        cases pI
        go_wp2_with (first | ((with_reducible refine gD 7 ?_); refine bX 7 #[.string (⟨#[]⟩ : ByteArray), .slice none 0 0, .slice none 0 0] 56 ?_; intro eW hg Kp hbox hb; replace eC := RB p2 hb; have b8 := am hbox; have qU := am (p3 : w.heap.size ≤ eW); have wB := qU; replace HB := bS aY hb; have fG := nL aC hg; have jB := nG aC hg; replace a3 := bB aC hb; clear hb hbox hg; have Mm := nZ1 jB fG; have Y9 := cz3 b8; obtain ⟨jJ, eM, yG⟩ := Kd.R_slice eC.1; subst yG) | ((with_reducible refine gate_callee (f := 81) rfl ?_); refine goesL_ (some 31) rfl rfl Try.func81 (by kernel_rfl) rfl #[.slice jJ iZ.length eM, .string ((rd_T56 a4 dA).f0)] rfl sE ?_; (with_reducible refine (slices_Contains_string_string.calls k2 _ _ iZ ((rd_T56 a4 dA).f0) true _ ?side1 ?side2 EB.out).mono ?_); (case side1 => refine (Kd.R_reads' (e := 9) (base := w.heap.size) (ok := fun k_ => True) (n := iZ.length) (c := eM) ?_).2.2; exact L0); (case side2 => exact (Kd.R_reads' eC.1).2.1); rintro e w' ⟨rfl, ⟨nd, rfl⟩⟩; refine ⟨_, rfl, ?_⟩))
        go_roundg k2
        case measure => have := HK1.out; have := HK2.out; omega
        case rel => exact ⟨(iZ), (wrap64 (dA + 1)), aQ, H', ⟨by have := HK1.out; have := HK2.out; omega⟩, ⟨mR eC b8⟩, ⟨qF a3 fG⟩, ⟨lH⟩⟩
       ·obtain ⟨m9, VH, H⟩ := bd H
        refine tC H ?_ ?_ <;> clear H <;> intro Nh H <;> subst Nh
        ·obtain ⟨NU, H⟩ := cL H
         obtain ⟨rF, zL, H⟩ := bY H
         by_cases DD : (rF.length : Int) = (dP.length : Int)
         ·rw [if_pos DD] at H
          have YX : ((rF.length : Int) == (dP.length : Int)) = true := beq_iff_eq.mpr DD
          have YY : ((rF.length : Int) != (dP.length : Int)) = false := bne_eq_false_iff_eq.mpr DD
          have YZ : (rF.length == dP.length) = true := by first | simpa using DD | (simp at DD ⊢; omega)
          clear DD
          obtain ⟨rfl, rfl⟩ := sZ2 H
          repeat clear H
          obtain ⟨l9, jI, jK, kF, kR, pI, iL, kX, kY, kO, o0, kP, o1, wR, sF⟩ := aT56 aK HB dA
          cases pI
          go_wp2_with (first | ((with_reducible refine gD 7 ?_); refine bX 7 #[.string (⟨#[]⟩ : ByteArray), .slice none 0 0, .slice none 0 0] 56 ?_; intro eW hg WG hbox hb; replace eC := RB p2 hb; have b8 := am hbox; have qU := am (p3 : w.heap.size ≤ eW); have wB := qU; replace HB := bS aY hb; have fG := nL aC hg; have jB := nG aC hg; replace a3 := bB aC hb; clear hb hbox hg; have Mp := nZ1 jB fG; have Uk := cz3 b8; obtain ⟨WU, LX, Ov⟩ := Kd.R_slice eC.1; subst Ov) | ((with_reducible refine gate_callee (f := 81) rfl ?_); refine goesL_ (some 31) rfl rfl Try.func81 (by kernel_rfl) rfl #[.slice WU iZ.length LX, .string ((rd_T56 a4 dA).f0)] rfl sE ?_; (with_reducible refine (slices_Contains_string_string.calls k2 _ _ iZ ((rd_T56 a4 dA).f0) false _ ?side1 ?side2 EB.out).mono ?_); (case side1 => refine (Kd.R_reads' (e := 9) (base := w.heap.size) (ok := fun k_ => True) (n := iZ.length) (c := LX) ?_).2.2; exact L0); (case side2 => exact (Kd.R_reads' eC.1).2.1); rintro e w' ⟨rfl, ⟨nd, rfl⟩⟩; refine ⟨_, rfl, ?_⟩; have ky := cz2 a3) | (go_at_call 85; (with_reducible refine (impl_ShareBook_can.calls k2 _ _ a7 _ _ a4 dA _ _ iZ true _ ?side1 ?side2 ?side3 ?side4 ?side5 ?side6 VH.out).mono ?_); (case side1 => exact Kd.C_below bC.1 lH); (case side2 => exact bA.1); (case side3 => exact Kd.C_below aK.1 lH); (case side4 => exact bM.1); (case side5 => refine (Kd.R_reads' (e := 9) (base := w.heap.size) (ok := fun k_ => True) (n := iZ.length) (c := LX) ?_).2.2; exact L0); (case side6 => exact (Kd.R_reads' eC.1).2.1); rintro e Do ⟨rfl, hb⟩; replace eC := RB L0 hb; replace a3 := am (blk_below (g := a6) (o := .cells #[.slice bG a7.length bH, .slice (some l9) a4.length bD] 31 (0, 0)) Cs hb); replace b8 := am (blk_below (g := eW) (o := .cells #[.string ((rd_T56 a4 dA).f0), .slice jI ((rd_T56 a4 dA).f1).length jK, .slice kF ((rd_T56 a4 dA).f2).length kR] 56 (0, 0)) Qw hb); replace HB := bS lH hb; (try clear hb); have Uq := cz3 b8) | ((with_reducible refine gate_builtin (b := .append) (xs := #[.tmp 39, .tmp 42]) rfl ?_); at_builtin; refine Kd.R_append Kd.string (w0 := w) w.heap.size rfl (.tmp 39) (.tmp 42) 23 9 (.string ⟨#[]⟩) 16 rfl Try.underlying23 info9 rfl (by decide) (by omega) (.slice WU iZ.length LX) iZ ((rd_T56 a4 dA).f0) [.string ((rd_T56 a4 dA).f0)] (fun _ => True) (fun _ => False) rfl rfl ?aP (fun _ hk => hk.elim) ?aF ?aO ?aB ?aS ?aL ?_; (case aP => exact rfl); (case aB => exact lH); (case aF => exact (fun _ _ => trivial)); (case aO => exact p2); (case aS => exact (below_size lH)); (case aL => have := NU.out; omega); intro wV ee ho hb hg hat; rw [← zL.out] at ho; replace a3 := gkR aC hg eC a3; replace b8 := gkR hZ hg eC b8; replace HB := am hb; have k6 := am ho; clear eC; clear ho hb hg hat; obtain ⟨Lq, Nt, M5⟩ := Kd.R_slice k6.1; subst M5))
          go_ret2
          exact ⟨_, eR, by first | exact Kd.R_nil _ _ _ _ _ | exact Kd.N_nil _ _ _ _ _ | exact Kd.V_nil _ _ _ _ _ | exact Kd.Q_nil _ _ _ _ _ | exact Kd.S_nil _ _ _ _ _, lH⟩
         ·rw [if_neg DD] at H
          have YX : ((rF.length : Int) == (dP.length : Int)) = false := beq_eq_false_iff_ne.mpr DD
          have YY : ((rF.length : Int) != (dP.length : Int)) = true := bne_iff_ne.mpr DD
          have YZ : (rF.length == dP.length) = false := by first | simpa using DD | (simp at DD ⊢; omega)
          have H' := am H
          repeat clear H
          obtain ⟨l9, jI, jK, kF, kR, pI, iL, kX, kY, kO, o0, kP, o1, wR, sF⟩ := aT56 aK HB dA
          cases pI
          go_wp2_with (first | ((with_reducible refine gD 7 ?_); refine bX 7 #[.string (⟨#[]⟩ : ByteArray), .slice none 0 0, .slice none 0 0] 56 ?_; intro eW hg Sm hbox hb; replace eC := RB p2 hb; have b8 := am hbox; have qU := am (p3 : w.heap.size ≤ eW); have wB := qU; replace HB := bS aY hb; have fG := nL aC hg; have jB := nG aC hg; replace a3 := bB aC hb; clear hb hbox hg; have Es := nZ1 jB fG; have qn := cz3 b8; obtain ⟨L3, H5, M6⟩ := Kd.R_slice eC.1; subst M6) | ((with_reducible refine gate_callee (f := 81) rfl ?_); refine goesL_ (some 31) rfl rfl Try.func81 (by kernel_rfl) rfl #[.slice L3 iZ.length H5, .string ((rd_T56 a4 dA).f0)] rfl sE ?_; (with_reducible refine (slices_Contains_string_string.calls k2 _ _ iZ ((rd_T56 a4 dA).f0) false _ ?side1 ?side2 EB.out).mono ?_); (case side1 => refine (Kd.R_reads' (e := 9) (base := w.heap.size) (ok := fun k_ => True) (n := iZ.length) (c := H5) ?_).2.2; exact L0); (case side2 => exact (Kd.R_reads' eC.1).2.1); rintro e w' ⟨rfl, ⟨nd, rfl⟩⟩; refine ⟨_, rfl, ?_⟩; have lc := cz2 a3) | (go_at_call 85; (with_reducible refine (impl_ShareBook_can.calls k2 _ _ a7 _ _ a4 dA _ _ iZ true _ ?side1 ?side2 ?side3 ?side4 ?side5 ?side6 VH.out).mono ?_); (case side1 => exact Kd.C_below bC.1 lH); (case side2 => exact bA.1); (case side3 => exact Kd.C_below aK.1 lH); (case side4 => exact bM.1); (case side5 => refine (Kd.R_reads' (e := 9) (base := w.heap.size) (ok := fun k_ => True) (n := iZ.length) (c := H5) ?_).2.2; exact L0); (case side6 => exact (Kd.R_reads' eC.1).2.1); rintro e Dp ⟨rfl, hb⟩; replace eC := RB L0 hb; replace a3 := am (blk_below (g := a6) (o := .cells #[.slice bG a7.length bH, .slice (some l9) a4.length bD] 31 (0, 0)) Cs hb); replace b8 := am (blk_below (g := eW) (o := .cells #[.string ((rd_T56 a4 dA).f0), .slice jI ((rd_T56 a4 dA).f1).length jK, .slice kF ((rd_T56 a4 dA).f2).length kR] 56 (0, 0)) Qw hb); replace HB := bS lH hb; (try clear hb); have ld := cz3 b8) | ((with_reducible refine gate_builtin (b := .append) (xs := #[.tmp 39, .tmp 42]) rfl ?_); at_builtin; refine Kd.R_append Kd.string (w0 := w) w.heap.size rfl (.tmp 39) (.tmp 42) 23 9 (.string ⟨#[]⟩) 16 rfl Try.underlying23 info9 rfl (by decide) (by omega) (.slice L3 iZ.length H5) iZ ((rd_T56 a4 dA).f0) [.string ((rd_T56 a4 dA).f0)] (fun _ => True) (fun _ => False) rfl rfl ?aP (fun _ hk => hk.elim) ?aF ?aO ?aB ?aS ?aL ?_; (case aP => exact rfl); (case aB => exact lH); (case aF => exact (fun _ _ => trivial)); (case aO => exact p2); (case aS => exact (below_size lH)); (case aL => have := NU.out; omega); intro wV Kt ho hb hg hat; rw [← zL.out] at ho; replace a3 := gkR aC hg eC a3; replace b8 := gkR hZ hg eC b8; replace HB := am hb; have k6 := am ho; clear eC; clear ho hb hg hat; obtain ⟨I2, tG, SS⟩ := Kd.R_slice k6.1; subst SS))
          go_roundg k2
          case measure => have := HK1.out; have := HK2.out; omega
          case rel => exact ⟨(rF), H', ⟨by have := HK1.out; have := HK2.out; omega⟩, ⟨rR k6.1⟩, ⟨rB a3.1⟩, ⟨lH⟩⟩
        ·have H' := am H
         repeat clear H
         obtain ⟨l9, jI, jK, kF, kR, pI, iL, kX, kY, kO, o0, kP, o1, wR, sF⟩ := aT56 aK HB dA
         cases pI
         go_wp2_with (first | ((with_reducible refine gD 7 ?_); refine bX 7 #[.string (⟨#[]⟩ : ByteArray), .slice none 0 0, .slice none 0 0] 56 ?_; intro eW hg Dq hbox hb; replace eC := RB p2 hb; have b8 := am hbox; have qU := am (p3 : w.heap.size ≤ eW); have wB := qU; replace HB := bS aY hb; have fG := nL aC hg; have jB := nG aC hg; replace a3 := bB aC hb; clear hb hbox hg; have Uv := nZ1 jB fG; have Eu := cz3 b8; obtain ⟨Q6, JD, ST⟩ := Kd.R_slice eC.1; subst ST) | ((with_reducible refine gate_callee (f := 81) rfl ?_); refine goesL_ (some 31) rfl rfl Try.func81 (by kernel_rfl) rfl #[.slice Q6 iZ.length JD, .string ((rd_T56 a4 dA).f0)] rfl sE ?_; (with_reducible refine (slices_Contains_string_string.calls k2 _ _ iZ ((rd_T56 a4 dA).f0) false _ ?side1 ?side2 EB.out).mono ?_); (case side1 => refine (Kd.R_reads' (e := 9) (base := w.heap.size) (ok := fun k_ => True) (n := iZ.length) (c := JD) ?_).2.2; exact L0); (case side2 => exact (Kd.R_reads' eC.1).2.1); rintro e w' ⟨rfl, ⟨nd, rfl⟩⟩; refine ⟨_, rfl, ?_⟩; have Uw := cz2 a3) | (go_at_call 85; (with_reducible refine (impl_ShareBook_can.calls k2 _ _ a7 _ _ a4 dA _ _ iZ false _ ?side1 ?side2 ?side3 ?side4 ?side5 ?side6 VH.out).mono ?_); (case side1 => exact Kd.C_below bC.1 lH); (case side2 => exact bA.1); (case side3 => exact Kd.C_below aK.1 lH); (case side4 => exact bM.1); (case side5 => refine (Kd.R_reads' (e := 9) (base := w.heap.size) (ok := fun k_ => True) (n := iZ.length) (c := JD) ?_).2.2; exact L0); (case side6 => exact (Kd.R_reads' eC.1).2.1); rintro e Sq ⟨rfl, hb⟩; replace eC := RB L0 hb; replace a3 := am (blk_below (g := a6) (o := .cells #[.slice bG a7.length bH, .slice (some l9) a4.length bD] 31 (0, 0)) Cs hb); replace b8 := am (blk_below (g := eW) (o := .cells #[.string ((rd_T56 a4 dA).f0), .slice jI ((rd_T56 a4 dA).f1).length jK, .slice kF ((rd_T56 a4 dA).f2).length kR] 56 (0, 0)) Qw hb); replace HB := bS lH hb; (try clear hb)))
         go_roundg k2
         case measure => have := HK1.out; have := HK2.out; omega
         case rel => exact ⟨(iZ), (wrap64 (dA + 1)), aQ, H', ⟨by have := HK1.out; have := HK2.out; omega⟩, ⟨rR eC.1⟩, ⟨rB a3.1⟩, ⟨lH⟩⟩
      ·by_cases zT : (iZ.length : Int) = (dP.length : Int)
       ·rw [if_pos zT] at H
        have DG : ((iZ.length : Int) == (dP.length : Int)) = true := beq_iff_eq.mpr zT
        have G8 : ((iZ.length : Int) != (dP.length : Int)) = false := bne_eq_false_iff_eq.mpr zT
        have ZA : (iZ.length == dP.length) = true := by first | simpa using zT | (simp at zT ⊢; omega)
        clear zT
        obtain ⟨rfl, rfl⟩ := sZ2 H
        repeat clear H
        obtain ⟨jm, mr, Oz⟩ := Kd.R_slice eC.1
        subst Oz
        go_wp2
        go_ret2
        exact ⟨_, eR, by first | exact Kd.R_nil _ _ _ _ _ | exact Kd.N_nil _ _ _ _ _ | exact Kd.V_nil _ _ _ _ _ | exact Kd.Q_nil _ _ _ _ _ | exact Kd.S_nil _ _ _ _ _, aY⟩
       ·rw [if_neg zT] at H
        have DG : ((iZ.length : Int) == (dP.length : Int)) = false := beq_eq_false_iff_ne.mpr zT
        have G8 : ((iZ.length : Int) != (dP.length : Int)) = true := bne_iff_ne.mpr zT
        have ZA : (iZ.length == dP.length) = false := by first | simpa using zT | (simp at zT ⊢; omega)
        have H' := am H
        repeat clear H
        obtain ⟨WX, ZY, M8⟩ := Kd.R_slice eC.1
        subst M8
        go_wp2
        go_roundg k2
        case measure => have := HK1.out; have := HK2.out; omega
        case rel => exact ⟨(iZ), H', ⟨by have := HK1.out; have := HK2.out; omega⟩, ⟨rR eC.1⟩, ⟨rB a3.1⟩, ⟨aY⟩⟩
   ·rw [if_neg c9] at H
    have vQ : decide ((dP.length : Int) < (a4.length : Int)) = false := decide_eq_false c9
    have JB : decide (dP.length < a4.length) = false := decide_eq_false (fun h => c9 (Int.ofNat_lt.mpr h))
    clear c9
    obtain ⟨rfl, rfl⟩ := sZ2 H
    repeat clear H
    obtain ⟨jn, ms, Pa⟩ := Kd.R_slice eC.1
    subst Pa
    have Ew := cz2 a3
    go_wp2
    go_ret2
    exact ⟨_, eR, rR eC.1, aY⟩
 obtain ⟨rfl, rfl⟩ := sZ2 H
 repeat clear H
 go_enter Try.func45, Try.ntmps45
 go_wp2_with (first | ((with_reducible refine gD 1 ?_); refine bX 1 #[.slice bG a7.length bH, .slice bL a4.length bD] 31 ?_; intro a6 hg qg hbox hb; have a3 := am hbox; have bR := am (hJ : w.heap.size ≤ a6); have cJ := bR; replace HB := bS cI hb; clear hb hbox hg; have Uz := cz2 a3) | ((with_reducible refine gC 24 ?_); refine cQ (some 9) Try.func24 (impl_ShareBookOk.calls k _ _ a7 _ _ a4 false _ (pB bC) bA.1 (pB aK) bM.1 A2.out) ?_; rintro sf hb; replace a3 := bB aC hb; replace HB := bS aY hb; (try clear hb)))
 go_ret2
 exact ⟨_, eR, by first | exact Kd.R_nil _ _ _ _ _ | exact Kd.N_nil _ _ _ _ _ | exact Kd.V_nil _ _ _ _ _ | exact Kd.Q_nil _ _ _ _ _ | exact Kd.S_nil _ _ _ _ _, aY⟩
end Go.Proofs.Ytaofjgnhapnndaa.Q
namespace Go.Proofs.Ytaofjgnhapnndaa.Q
open Go.RowKit Go.Proofs.YtaofjgnhapnndaaW.PrintWords Go.Proofs.YtaofjgnhapnndaaW.PrintLast Go.Proofs.YtaofjgnhapnndaaW.PrintMore
set_option linter.unusedVariables false
set_option linter.unusedSimpArgs false
def impl_ShareSafe.f (k : Nat) (a7 : List ByteArray) (a4 : List (S56)) : Option (Bool) := (impl_ShareOrder.f k a7 a4).bind fun a => (some a.2)
theorem impl_ShareSafe.calls (k : Nat) (bG : Option Addr) (bH : Nat) (a7 : List ByteArray) (bL : Option Addr) (bD : Nat) (a4 : List (S56)) (r : Bool) (w : World) (cZ : Kd.C Kd.string w bG a7.length a7) (cX : a7.length ≤ bH) (cU : Kd.C k56 w bL a4.length a4) (cY : a4.length ≤ bD) (h : impl_ShareSafe.f k a7 a4 = some r) :
  Calls Try.prog 36 #[.agg #[.slice bG a7.length bH, .slice bL a4.length bD]] w fun e w' => e = .returned (.bool r) ∧ Below w.heap.size w w' := by
 have hu31 := Try.underlying31
 obtain ⟨bC, bA⟩ := mZ2 cZ cX
 obtain ⟨aK, bM⟩ := mZ2 cU cY
 clear cZ cX cU cY
 have HB := am (Below.refl w.heap.size w)
 unfold impl_ShareSafe.f at h
 have H := h
 clear h
 obtain ⟨⟨eB, e7⟩, A2, H⟩ := bd H
 dsimp only at H
 obtain rfl := Option.some.inj H
 repeat clear H
 go_enter Try.func36, Try.ntmps36
 go_wp2_with (first | ((with_reducible refine gD 1 ?_); refine bX 1 #[.slice bG a7.length bH, .slice bL a4.length bD] 31 ?_; intro a6 hg w3 hbox hb; have a3 := am hbox; have bR := am (hJ : w.heap.size ≤ a6); have cJ := bR; replace HB := bS cI hb; clear hb hbox hg; have Z4 := cz2 a3) | ((with_reducible refine gC 45 ?_); refine cE (some 7) Try.func45 (impl_ShareOrder.calls k _ _ a7 _ _ a4 eB e7 _ (pB bC) bA.1 (pB aK) bM.1 A2.out) ?_; rintro e w5 ⟨vW, rfl, bQ, hb⟩; refine ⟨_, rfl, ?_⟩; have dK := am (Kd.R_lower bQ (below_size aY)); replace a3 := bB aC hb; replace HB := bS aY hb; (try clear hb); (try clear bQ)))
 go_ret
 exact ⟨eR, aY⟩
def spec_l1At.l0 : Nat → ByteArray → Int → List ByteArray → List (S56) → Option (Int)
 | 0, _, _, _, _ => none
 | k + 1, c, a, d, b => if a < (b.length : Int) then (if 0 ≤ a then (if ((rd_T56 b a).f0).toList = c.toList then (some a) else (spec_l1At.l0 k c (wrap64 (a + 1)) d b)) else (none)) else (some (-1))
def spec_l1At.f (k : Nat) (a7 : List ByteArray) (a4 : List (S56)) (a1 : ByteArray) : Option (Int) := spec_l1At.l0 k a1 0 a7 a4
theorem spec_l1At.calls (k : Nat) (bG : Option Addr) (bH : Nat) (a7 : List ByteArray) (bL : Option Addr) (bD : Nat) (a4 : List (S56)) (a1 : ByteArray) (r : Int) (w : World) (cZ : Kd.C Kd.string w bG a7.length a7) (cX : a7.length ≤ bH) (cU : Kd.C k56 w bL a4.length a4) (cY : a4.length ≤ bD) (h : spec_l1At.f k a7 a4 a1 = some r) :
  Calls Try.prog 82 #[.agg #[.slice bG a7.length bH, .slice bL a4.length bD], .string a1] w fun e w' => e = .returned (.int .i64 r) ∧ Below w.heap.size w w' := by
 have hu31 := Try.underlying31
 obtain ⟨bC, bA⟩ := mZ2 cZ cX
 obtain ⟨aK, bM⟩ := mZ2 cU cY
 clear cZ cX cU cY
 have HB := am (Below.refl w.heap.size w)
 unfold spec_l1At.f at h
 have H := h
 clear h
 have H' := am H
 repeat clear H
 go_enter Try.func82, Try.ntmps82
 go_wp2_with (first | ((with_reducible refine gD 2 ?_); refine bX 2 #[.slice bG a7.length bH, .slice bL a4.length bD] 31 ?_; intro a6 hg w3 hbox hb; have a3 := am hbox; have bR := am (hJ : w.heap.size ≤ a6); have cJ := bR; replace HB := bS cI hb; clear hb hbox hg))
 go_loopg [5] k (fun kq v5 w' => ∃ (aW : Int), v5 = .int .i64 aW ∧ Aside0 (spec_l1At.l0 kq a1 aW a7 a4 = some r) ∧ Aside0 (kq ≤ k) ∧ Aside0 (w'.heap[a6]? = some (.cells #[(.slice bG a7.length bH), (.slice bL a4.length bD)] 31 (0, 0))) ∧ Aside0 (Below w.heap.size w w'))
 case atStart => exact ⟨(0), aQ, H', ⟨Nat.le_refl _⟩, ⟨rB a3.1⟩, ⟨aY⟩⟩
 clear H'
 obtain ⟨aW, rfl, HA, HK1, a3, HB⟩ := hrel
 cases gk with
 | zero => exact absurd HA.out (by simp [spec_l1At.l0])
 | succ k1 =>
  have H := HA.out
  clear HA
  simp only [spec_l1At.l0] at H
  refine ic H ?_ ?_ <;> clear H <;> intro jE H
  ·obtain ⟨pH, H⟩ := cN H
   refine iq H ?_ ?_ <;> clear H <;> intro c6 sC EQ H
   ·obtain rfl := Option.some.inj H
    repeat clear H
    have Z7 := cz2 a3
    obtain ⟨fA, iO, iU, iP, iV, iE, f7, fQ, fT, g7, fZ, j7, j5, oF, oH⟩ := aT56 aK HB aW
    cases iE
    go_wp2
    go_ret
    exact ⟨eR, aY⟩
   ·have H' := am H
    repeat clear H
    have Z8 := cz2 a3
    obtain ⟨fA, iO, iU, iP, iV, iE, f7, fQ, fT, g7, fZ, j7, j5, oF, oH⟩ := aT56 aK HB aW
    cases iE
    go_wp2
    go_roundg k1
    case measure => have := HK1.out; omega
    case rel => exact ⟨(wrap64 (aW + 1)), aQ, H', ⟨by have := HK1.out; omega⟩, ⟨rB a3.1⟩, ⟨aY⟩⟩
  ·obtain rfl := Option.some.inj H
   repeat clear H
   have Z9 := cz2 a3
   go_wp2
   go_ret
   exact ⟨eR, aY⟩
mutual
def spec_ShareWaits.l0 : Nat → List ByteArray → Int → Int → List ByteArray → List (S56) → Option (List ByteArray)
 | 0, _, _, _, _, _ => none
 | k + 1, e, b, c, d, a => if c < (a.length : Int) then (if b ≥ 0 then ((spec_ShareBookOk.f k d a).bind fun g => (spec_ShareWaits.j1 k e b c g d a)) else (spec_ShareWaits.j1 k e b c false d a)) else (spec_ShareWaits.j1 k e b c false d a)
def spec_ShareWaits.j1 : Nat → List ByteArray → Int → Int → Bool → List ByteArray → List (S56) → Option (List ByteArray)
 | 0, _, _, _, _, _, _ => none
 | k + 1, d, c, a, g, e, b => if g = true then (if a = c then (spec_ShareWaits.l0 k d c (wrap64 (a + 1)) e b) else (if 0 ≤ a then (if a < (b.length : Int) then (if 0 ≤ c then (if c < (b.length : Int) then ((spec_l1Share.f k ((rd_T56 b a).f1) ((rd_T56 b c).f2)).bind fun h => (if h = true then (if d.length < 8796093022208 then (spec_ShareWaits.l0 k (d ++ [(rd_T56 b a).f0]) c (wrap64 (a + 1)) e b) else (none)) else (spec_ShareWaits.l0 k d c (wrap64 (a + 1)) e b))) else (none)) else (none)) else (none)) else (none))) else (some d)
end
def spec_ShareWaits.f (k : Nat) (a7 : List ByteArray) (a4 : List (S56)) (a1 : ByteArray) : Option (List ByteArray) := (spec_l1At.f k a7 a4 a1).bind fun a => (spec_ShareWaits.l0 k (([] : List ByteArray)) a 0 a7 a4)
theorem spec_ShareWaits.calls (k : Nat) (bG : Option Addr) (bH : Nat) (a7 : List ByteArray) (bL : Option Addr) (bD : Nat) (a4 : List (S56)) (a1 : ByteArray) (r : List ByteArray) (w : World) (cZ : Kd.C Kd.string w bG a7.length a7) (cX : a7.length ≤ bH) (cU : Kd.C k56 w bL a4.length a4) (cY : a4.length ≤ bD) (h : spec_ShareWaits.f k a7 a4 a1 = some r) :
  Calls Try.prog 37 #[.agg #[.slice bG a7.length bH, .slice bL a4.length bD], .string a1] w fun e w' => ∃ v0_ : Value, e = .returned (v0_) ∧ Kd.R Kd.string 9 w' w.heap.size (fun _ => True) v0_ r ∧ Below w.heap.size w w' := by
 have hu31 := Try.underlying31
 obtain ⟨bC, bA⟩ := mZ2 cZ cX
 obtain ⟨aK, bM⟩ := mZ2 cU cY
 clear cZ cX cU cY
 have HB := am (Below.refl w.heap.size w)
 unfold spec_ShareWaits.f at h
 have H := h
 clear h
 obtain ⟨CU, hy102⟩ : ∃ y_ : List ByteArray, y_ = (([] : List ByteArray)) := ⟨_, rfl⟩
 replace H : ((spec_l1At.f k a7 a4 a1).bind fun e7 => (spec_ShareWaits.l0 k CU e7 0 a7 a4)) = some r := by first | (rw [hy102]; with_reducible exact H) | (have H2_ := (Option.bind_some _ _).symm.trans H; rw [hy102]; with_reducible exact H2_) | (have H2_ := (Option.bind_some _ _).symm.trans H; with_reducible exact H2_) | with_reducible exact H | (rw [hy102]; exact H) | exact H
 have sL := am hy102
 clear hy102
 obtain ⟨e7, A3, H⟩ := bd H
 have H' := am H
 repeat clear H
 go_enter Try.func37, Try.ntmps37
 go_wp2_with (first | ((with_reducible refine gD 2 ?_); refine bX 2 #[.slice bG a7.length bH, .slice bL a4.length bD] 31 ?_; intro a6 hg w4 hbox hb; have a3 := am hbox; have bR := am (hJ : w.heap.size ≤ a6); have cJ := bR; replace HB := bS cI hb; clear hb hbox hg) | ((with_reducible refine gate_dst (N := 8) rfl ?_); refine lS 9 8 sL ?_; intro vW w5 DO hb; have dK := am (Kd.R_lower DO (below_size aY)); replace a3 := bB aC hb; replace HB := bS aY hb; clear hb DO; have Z7 := cz2 a3) | (go_at_call 82; refine cM (spec_l1At.calls k _ _ a7 _ _ a4 a1 e7 _ (pB bC) bA.1 (pB aK) bM.1 A3.out) ?_; rintro w8 hb; replace dK := RB qK hb; replace a3 := bB aC hb; replace HB := bS aY hb; (try clear hb)))
 repeat (go_quiet (first | ((with_reducible refine gD 2 ?_); refine bX 2 #[.slice bG a7.length bH, .slice bL a4.length bD] 31 ?_; intro a6 hg w4 hbox hb; have a3 := am hbox; have bR := am (hJ : w.heap.size ≤ a6); have cJ := am (hJ : w.heap.size ≤ a6); replace HB := bS cI hb; clear hb hbox hg) | ((with_reducible refine gate_dst (N := 8) rfl ?_); refine Kd.R_lit Kd.string _ 9 ?hg (N := 8) ?hd (xs := ([] : List ByteArray)) (inner := []) (ok := fun _ => True) (okp := fun _ => True) ?hr ?hp (fun _ hk => hk) trivial (Below.refl _ _) (Nat.le_refl _) (by simp) ?_; (case hd => rfl); (case hg => rfl); (case hr => first | (go_simp; done) | (go_simp; rfl)); (case hp => exact (Reps.none _ _)); intro vW w5 DO hb hg_ hnew_; clear hg_ hnew_; (first | rw [← sL.out] at DO | (simp only [Int.reduceToNat] at DO; rw [← sL.out] at DO)); have dK := am (Kd.R_lower DO (below_size aY)); replace a3 := bB aC hb; replace HB := bS aY hb; clear hb DO; obtain ⟨U8, U9, UB, UC⟩ := cz2 a3) | (go_at_call 82; refine cM (spec_l1At.calls k _ _ a7 _ _ a4 a1 e7 _ (pB bC) bA.1 (pB aK) bM.1 A3.out) ?_; rintro w8 hb; replace dK := RB qK hb; replace a3 := bB aC hb; replace HB := bS aY hb; (try clear hb))); try go_wp2_with (first | ((with_reducible refine gD 2 ?_); refine bX 2 #[.slice bG a7.length bH, .slice bL a4.length bD] 31 ?_; intro a6 hg w4 hbox hb; have a3 := am hbox; have bR := am (hJ : w.heap.size ≤ a6); have cJ := am (hJ : w.heap.size ≤ a6); replace HB := bS cI hb; clear hb hbox hg) | ((with_reducible refine gate_dst (N := 8) rfl ?_); refine Kd.R_lit Kd.string _ 9 ?hg (N := 8) ?hd (xs := ([] : List ByteArray)) (inner := []) (ok := fun _ => True) (okp := fun _ => True) ?hr ?hp (fun _ hk => hk) trivial (Below.refl _ _) (Nat.le_refl _) (by simp) ?_; (case hd => rfl); (case hg => rfl); (case hr => first | (go_simp; done) | (go_simp; rfl)); (case hp => exact (Reps.none _ _)); intro vW w5 DO hb hg_ hnew_; clear hg_ hnew_; (first | rw [← sL.out] at DO | (simp only [Int.reduceToNat] at DO; rw [← sL.out] at DO)); have dK := am (Kd.R_lower DO (below_size aY)); replace a3 := bB aC hb; replace HB := bS aY hb; clear hb DO; obtain ⟨U8, U9, UB, UC⟩ := cz2 a3) | (go_at_call 82; refine cM (spec_l1At.calls k _ _ a7 _ _ a4 a1 e7 _ (pB bC) bA.1 (pB aK) bM.1 A3.out) ?_; rintro w8 hb; replace dK := RB qK hb; replace a3 := bB aC hb; replace HB := bS aY hb; (try clear hb))))
 go_loopg [5, 7] k (fun kq v5 v7 w' => ∃ (aW : List ByteArray) (d7 : Int), v7 = .int .i64 d7 ∧ Aside0 (spec_ShareWaits.l0 kq aW e7 d7 a7 a4 = some r) ∧ Aside0 (kq ≤ k) ∧ Aside0 (Kd.R Kd.string 9 w' w.heap.size (fun _ => True) v5 aW) ∧ Aside0 (w'.heap[a6]? = some (.cells #[(.slice bG a7.length bH), (.slice bL a4.length bD)] 31 (0, 0))) ∧ Aside0 (Below w.heap.size w w'))
 case atStart => exact ⟨(CU), (0), aQ, H', ⟨Nat.le_refl _⟩, ⟨rR dK.1⟩, ⟨rB a3.1⟩, ⟨aY⟩⟩
 clear H'
 try clear Z7
 obtain ⟨aW, d7, rfl, HA, HK1, eD, a3, HB⟩ := hrel
 cases gk with
 | zero => exact absurd HA.out (by simp [spec_ShareWaits.l0])
 | succ k1 =>
  have H := HA.out
  clear HA
  simp only [spec_ShareWaits.l0] at H
  have Md := am H
  clear H
  go_upto_region 4 with ((fail))
  repeat (go_quiet (fail); go_upto_region 4 with (fail))
  go_cut [24] (fun Sb wc => ∃ (kq : Nat) (KP : Bool), Sb = .bool KP ∧ Aside0 (spec_ShareWaits.j1 kq aW e7 d7 KP a7 a4 = some r) ∧ Aside0 (kq ≤ k1) ∧ Aside0 (Kd.R Kd.string 9 wc w.heap.size (fun _ => True) u5 aW) ∧ Aside0 (wc.heap[a6]? = some (.cells #[(.slice bG a7.length bH), (.slice bL a4.length bD)] 31 (0, 0))) ∧ Aside0 (Below w.heap.size w wc))
  case first =>
   have H := Md.1
   clear Md
   refine ic H ?_ ?_ <;> clear H <;> intro n9 H
   ·(first | rw [n9] | (simp only [i64_w, i32_w]; rw [n9]) | skip)
    by_cases yR : e7 ≥ 0
    ·rw [if_pos yR] at H
     have qH : decide (0 ≤ e7) = true := decide_eq_true yR
     clear yR
     obtain ⟨bT, VF, H⟩ := bd H
     have H' := am H
     repeat clear H
     have OH := cz2 a3
     go_wp2_with (first | (go_at_call 22; refine cM (spec_ShareBookOk.calls k1 _ _ a7 _ _ a4 bT _ (pB bC) bA.1 (pB aK) bM.1 VF.out) ?_; rintro GS hb; replace eD := RB jO hb; replace a3 := bB aC hb; replace HB := bS aY hb; (try clear hb)))
     repeat (go_quiet (first | (go_at_call 22; refine cM (spec_ShareBookOk.calls k1 _ _ a7 _ _ a4 bT _ (pB bC) bA.1 (pB aK) bM.1 VF.out) ?_; rintro GS hb; replace eD := RB jO hb; replace a3 := bB aC hb; replace HB := bS aY hb; (try clear hb))); try go_wp2_with (first | (go_at_call 22; refine cM (spec_ShareBookOk.calls k1 _ _ a7 _ _ a4 bT _ (pB bC) bA.1 (pB aK) bM.1 VF.out) ?_; rintro GS hb; replace eD := RB jO hb; replace a3 := bB aC hb; replace HB := bS aY hb; (try clear hb))))
     go_meet
     case rel => exact ⟨_, (bT), aQ, H', ⟨by have := HK1.out; first | omega | exact Nat.le_refl _⟩, ⟨rR eD.1⟩, ⟨rB a3.1⟩, ⟨aY⟩⟩
    ·rw [if_neg yR] at H
     have qH : decide (0 ≤ e7) = false := decide_eq_false yR
     clear yR
     have H' := am H
     repeat clear H
     have Eo := cz2 a3
     go_wp2
     repeat (go_quiet (fail); try go_wp2)
     go_meet
     case rel => exact ⟨_, (false), aQ, H', ⟨by have := HK1.out; first | omega | exact Nat.le_refl _⟩, ⟨rR eD.1⟩, ⟨rB a3.1⟩, ⟨aY⟩⟩
   ·(first | rw [n9] | (simp only [i64_w, i32_w]; rw [n9]) | skip)
    have H' := am H
    repeat clear H
    have Ep := cz2 a3
    go_wp2
    repeat (go_quiet (fail); try go_wp2)
    go_meet
    case rel => exact ⟨_, (false), aQ, H', ⟨by have := HK1.out; first | omega | exact Nat.le_refl _⟩, ⟨rR eD.1⟩, ⟨rB a3.1⟩, ⟨aY⟩⟩
  case rest =>
   clear Md
   try clear Z7
   obtain ⟨kq, KP, rfl, HA, HJ8, eD, a3, HB⟩ := hcut
   cases kq with
   | zero => exact absurd HA.out (by simp [spec_ShareWaits.j1])
   | succ kj8 =>
    have H := HA.out
    clear HA
    simp only [spec_ShareWaits.j1] at H
    refine tC H ?_ ?_ <;> clear H <;> intro VL H <;> subst VL
    ·refine iq H ?_ ?_ <;> clear H <;> intro EP mF ON H
     ·have H' := am H
      repeat clear H
      go_wp2
      repeat (go_quiet (fail); try go_wp2)
      go_roundg kj8
      case measure => have := HK1.out; have := HJ8.out; omega
      case rel => exact ⟨(aW), (wrap64 (d7 + 1)), aQ, H', ⟨by have := HK1.out; have := HJ8.out; omega⟩, ⟨rR eD.1⟩, ⟨rB a3.1⟩, ⟨aY⟩⟩
     ·obtain ⟨OO, H⟩ := cN H
      obtain ⟨tF, H⟩ := cN H
      obtain ⟨OQ, H⟩ := cN H
      obtain ⟨OR, H⟩ := cN H
      obtain ⟨m9, yO, H⟩ := bd H
      refine tC H ?_ ?_ <;> clear H <;> intro DD H <;> subst DD
      ·obtain ⟨IE, H⟩ := cL H
       obtain ⟨FE, lU⟩ := yv (aW ++ [(rd_T56 a4 d7).f0]); first | replace H := bW lU H | rw [← lU.1] at H
       have H' := am H
       repeat clear H
       have Mp := cz2 a3
       obtain ⟨k9, n0, n7, n3, n8, r9, jV, gA, gF, f4, gN, jT, o2, DS, DW⟩ := aT56 aK HB d7
       cases r9
       obtain ⟨wK, HU, IZ, HV, J2, EX, rY, xR, xS, xD, AL, mJ, o3, UR, UY⟩ := aT56 aK HB e7
       obtain rfl : k9 = wK := (by injection EX)
       go_wp2_with (first | (go_at_call 72; refine cM (spec_l1Share.calls kj8 _ _ ((rd_T56 a4 d7).f1) _ _ ((rd_T56 a4 e7).f2) true _ (pB f4) gN.1 (pB mJ) o3.1 yO.out) ?_; rintro w' ⟨nd, rfl⟩; (try exact dR); obtain ⟨yB, AC, AV, AD, AW, BC, xT, pQ, pR, xE, x6, xF, x9, MV, N1⟩ := aT56 aK HB d7; obtain rfl : k9 = yB := (by injection BC); obtain ⟨ea_, ec_⟩ := eZ2 gA pQ; subst ea_; subst ec_; obtain ⟨ea_, ec_⟩ := eZ2 gF pR; subst ea_; subst ec_) | ((with_reducible refine gate_builtin (b := .append) (xs := #[.tmp 45, .tmp 52]) rfl ?_); at_builtin; refine Kd.R_append Kd.string (w0 := w) w.heap.size rfl (.tmp 45) (.tmp 52) 23 9 (.string ⟨#[]⟩) 16 rfl Try.underlying23 info9 rfl (by decide) (by omega) u5 aW ((rd_T56 a4 d7).f0) [.string ((rd_T56 a4 d7).f0)] (fun _ => True) (fun _ => False) rfl rfl ?aP (fun _ hk => hk.elim) ?aF ?aO ?aB ?aS ?aL ?_; (case aP => exact rfl); (case aB => exact aY); (case aF => exact (fun _ _ => trivial)); (case aO => exact jO); (case aS => exact (below_size aY)); (case aL => have := IE.out; omega); intro yL Kq ho hb hg hat; rw [← lU.out] at ho; replace a3 := gkR aC hg eD a3; replace HB := am hb; have eP := am ho; clear eD; clear ho hb hg hat))
       repeat (go_quiet (first | (go_at_call 72; refine cM (spec_l1Share.calls kj8 _ _ ((rd_T56 a4 d7).f1) _ _ ((rd_T56 a4 e7).f2) true _ (pB f4) gN.1 (pB mJ) o3.1 yO.out) ?_; rintro w' ⟨nd, rfl⟩; (try exact dR); obtain ⟨yB, AC, AV, AD, AW, BC, xT, pQ, pR, xE, x6, xF, x9, MV, N1⟩ := aT56 aK HB d7; obtain rfl : k9 = yB := (by injection BC); have ea_ := Option.some.inj (gA.symm.trans pQ); injection ea_ with ea_ en_ ec_; subst ea_; subst ec_; clear en_; have ea_ := Option.some.inj (gF.symm.trans pR); injection ea_ with ea_ en_ ec_; subst ea_; subst ec_; clear en_) | ((with_reducible refine gate_builtin (b := .append) (xs := #[.tmp 45, .tmp 52]) rfl ?_); at_builtin; refine Kd.R_append Kd.string (w0 := w) w.heap.size rfl (.tmp 45) (.tmp 52) 23 9 (.string ⟨#[]⟩) 16 rfl Try.underlying23 info9 rfl (by decide) (by omega) u5 aW ((rd_T56 a4 d7).f0) [.string ((rd_T56 a4 d7).f0)] (fun _ => True) (fun _ => False) rfl rfl ?aP (fun _ hk => hk.elim) ?aF ?aO ?aB ?aS ?aL ?_; (case aP => exact rfl); (case aB => exact aY); (case aF => exact (fun _ _ => trivial)); (case aO => exact jO); (case aS => exact (below_size aY)); (case aL => have := IE.out; omega); intro yL Kq ho hb hg hat; rw [← lU.out] at ho; replace a3 := gkR aC hg eD a3; replace HB := am hb; have eP := am ho; clear eD; clear ho hb hg hat)); try go_wp2_with (first | (go_at_call 72; refine cM (spec_l1Share.calls kj8 _ _ ((rd_T56 a4 d7).f1) _ _ ((rd_T56 a4 e7).f2) true _ (pB f4) gN.1 (pB mJ) o3.1 yO.out) ?_; rintro w' ⟨nd, rfl⟩; (try exact dR); obtain ⟨yB, AC, AV, AD, AW, BC, xT, pQ, pR, xE, x6, xF, x9, MV, N1⟩ := aT56 aK HB d7; obtain rfl : k9 = yB := (by injection BC); have ea_ := Option.some.inj (gA.symm.trans pQ); injection ea_ with ea_ en_ ec_; subst ea_; subst ec_; clear en_; have ea_ := Option.some.inj (gF.symm.trans pR); injection ea_ with ea_ en_ ec_; subst ea_; subst ec_; clear en_) | ((with_reducible refine gate_builtin (b := .append) (xs := #[.tmp 45, .tmp 52]) rfl ?_); at_builtin; refine Kd.R_append Kd.string (w0 := w) w.heap.size rfl (.tmp 45) (.tmp 52) 23 9 (.string ⟨#[]⟩) 16 rfl Try.underlying23 info9 rfl (by decide) (by omega) u5 aW ((rd_T56 a4 d7).f0) [.string ((rd_T56 a4 d7).f0)] (fun _ => True) (fun _ => False) rfl rfl ?aP (fun _ hk => hk.elim) ?aF ?aO ?aB ?aS ?aL ?_; (case aP => exact rfl); (case aB => exact aY); (case aF => exact (fun _ _ => trivial)); (case aO => exact jO); (case aS => exact (below_size aY)); (case aL => have := IE.out; omega); intro yL Kq ho hb hg hat; rw [← lU.out] at ho; replace a3 := gkR aC hg eD a3; replace HB := am hb; have eP := am ho; clear eD; clear ho hb hg hat)))
       go_roundg kj8
       case measure => have := HK1.out; have := HJ8.out; omega
       case rel => exact ⟨(FE), (wrap64 (d7 + 1)), aQ, H', ⟨by have := HK1.out; have := HJ8.out; omega⟩, ⟨rR eP.1⟩, ⟨rB a3.1⟩, ⟨aY⟩⟩
      ·have H' := am H
       repeat clear H
       have Ul := cz2 a3
       obtain ⟨k9, n0, n7, n3, n8, r9, jV, gA, gF, f4, gN, jT, o2, DS, DW⟩ := aT56 aK HB d7
       cases r9
       obtain ⟨wK, HU, IZ, HV, J2, EX, rY, xR, xS, xD, AL, mJ, o3, UR, UY⟩ := aT56 aK HB e7
       obtain rfl : k9 = wK := (by injection EX)
       go_wp2_with (first | (go_at_call 72; refine cM (spec_l1Share.calls kj8 _ _ ((rd_T56 a4 d7).f1) _ _ ((rd_T56 a4 e7).f2) false _ (pB f4) gN.1 (pB mJ) o3.1 yO.out) ?_; rintro w' ⟨nd, rfl⟩; (try exact dR)))
       repeat (go_quiet (first | (go_at_call 72; refine cM (spec_l1Share.calls kj8 _ _ ((rd_T56 a4 d7).f1) _ _ ((rd_T56 a4 e7).f2) false _ (pB f4) gN.1 (pB mJ) o3.1 yO.out) ?_; rintro w' ⟨nd, rfl⟩; (try exact dR))); try go_wp2_with (first | (go_at_call 72; refine cM (spec_l1Share.calls kj8 _ _ ((rd_T56 a4 d7).f1) _ _ ((rd_T56 a4 e7).f2) false _ (pB f4) gN.1 (pB mJ) o3.1 yO.out) ?_; rintro w' ⟨nd, rfl⟩; (try exact dR))))
       go_roundg kj8
       case measure => have := HK1.out; have := HJ8.out; omega
       case rel => exact ⟨(aW), (wrap64 (d7 + 1)), aQ, H', ⟨by have := HK1.out; have := HJ8.out; omega⟩, ⟨rR eD.1⟩, ⟨rB a3.1⟩, ⟨aY⟩⟩
    ·obtain rfl := Option.some.inj H
     repeat clear H
     go_wp2
     repeat (go_quiet (fail); try go_wp2)
     go_ret
     exact ⟨_, eR, rR eD.1, aY⟩
end Go.Proofs.Ytaofjgnhapnndaa.Q
namespace Go.Proofs.Ytaofjgnhapnndaa.Q
open Go.RowKit Go.Proofs.YtaofjgnhapnndaaW.PrintWords Go.Proofs.YtaofjgnhapnndaaW.PrintLast Go.Proofs.YtaofjgnhapnndaaW.PrintMore
set_option linter.unusedVariables false
set_option linter.unusedSimpArgs false
theorem Ev.pos {α : Type} {c : Prop} [Decidable c] {a b : Nat → Option α} {r : α} (h : c) (H : Ev a r) : Ev (fun k => if c then a k else b k) r := by
 obtain ⟨K, hK⟩ := H
 exact ⟨K, fun k hk => by simp only [if_pos h]; exact hK k hk⟩
theorem Ev.neg {α : Type} {c : Prop} [Decidable c] {a b : Nat → Option α} {r : α} (h : ¬ c) (H : Ev b r) : Ev (fun k => if c then a k else b k) r := by
 obtain ⟨K, hK⟩ := H
 exact ⟨K, fun k hk => by simp only [if_neg h]; exact hK k hk⟩
theorem Ev.ret {α : Type} {r s : α} (h : r = s) : Ev (fun _ => some r) s := ⟨0, fun _ _ => by rw [h]⟩
theorem Ev.sub {α : Type} {g : Nat → Option α} {r s : α} (H : Ev g r) (h : r = s) : Ev g s := h ▸ H
theorem Ev.test {α : Type} {a b : Nat → Option α} {r : α} (t : Bool) (H1 : t = true → Ev a r) (H2 : t = false → Ev b r) : Ev (fun k => if t = true then a k else b k) r := by
 cases t with
 | true => exact Ev.pos rfl (H1 rfl)
 | false => exact Ev.neg (by simp) (H2 rfl)
theorem Ev.prop {α : Type} {c : Prop} [Decidable c] {a b : Nat → Option α} {r : α} (H1 : c → Ev a r) (H2 : ¬ c → Ev b r) : Ev (fun k => if c then a k else b k) r := by
 by_cases h : c
 ·exact Ev.pos h (H1 h)
 exact Ev.neg h (H2 h)
theorem Ev.loop {α : Type} {f : Nat → Nat → Option α} {val : Nat → α} (n : Nat) (hend : Ev (fun k => f k n) (val n))
    (hstep : ∀ i, i < n → Ev (fun k => f k (i + 1)) (val (i + 1)) → Ev (fun k => f k i) (val i)) : ∀ i, i ≤ n → Ev (fun k => f k i) (val i) := by
 intro i hi
 obtain ⟨d, hd⟩ : ∃ d, n - i = d := ⟨_, rfl⟩
 induction d generalizing i with
 | zero => have : i = n := by omega
           subst this; exact hend
 | succ d ih => exact hstep i (by omega) (ih (i + 1) (by omega) (by omega))
def allR (P : Nat → Bool) (n i : Nat) : Bool := (List.range' i (n - i)).all P
def anyR (P : Nat → Bool) (n i : Nat) : Bool := (List.range' i (n - i)).any P
theorem allR_end (P : Nat → Bool) (n : Nat) : allR P n n = true := by simp [allR]
theorem anyR_end (P : Nat → Bool) (n : Nat) : anyR P n n = false := by simp [anyR]
theorem allR_step (P : Nat → Bool) {n i : Nat} (h : i < n) : allR P n i = (P i && allR P n (i + 1)) := by
 unfold allR; rw [show n - i = (n - (i + 1)) + 1 by omega, List.range'_succ, List.all_cons]
theorem anyR_step (P : Nat → Bool) {n i : Nat} (h : i < n) : anyR P n i = (P i || anyR P n (i + 1)) := by
 unfold anyR; rw [show n - i = (n - (i + 1)) + 1 by omega, List.range'_succ, List.any_cons]
theorem allR_iff (P : Nat → Bool) (n i : Nat) : allR P n i = true ↔ ∀ j, i ≤ j → j < n → P j = true := by
 unfold allR; rw [List.all_eq_true]
 constructor
 ·intro h j h1 h2; exact h j (by rw [List.mem_range'_1]; omega)
 intro h j hj; rw [List.mem_range'_1] at hj; exact h j (by omega) (by omega)
theorem anyR_iff (P : Nat → Bool) (n i : Nat) : anyR P n i = true ↔ ∃ j, i ≤ j ∧ j < n ∧ P j = true := by
 unfold anyR; rw [List.any_eq_true]
 constructor
 ·rintro ⟨j, hj, h⟩; rw [List.mem_range'_1] at hj; exact ⟨j, by omega, by omega, h⟩
 rintro ⟨j, h1, h2, h⟩; exact ⟨j, by rw [List.mem_range'_1]; omega, h⟩
theorem Ev.loopAll {f : Nat → Nat → Option Bool} {P : Nat → Bool} (n : Nat) (hend : Ev (fun k => f k n) true)
    (hyes : ∀ i r, i < n → P i = true → Ev (fun k => f k (i + 1)) r → Ev (fun k => f k i) r) (hno : ∀ i, i < n → P i = false → Ev (fun k => f k i) false) : ∀ i, i ≤ n → Ev (fun k => f k i) (allR P n i) :=
  Ev.loop (val := allR P n) n (by rw [allR_end]; exact hend) fun i hi H => by
    rw [allR_step P hi]
    cases h : P i with
    | true => exact hyes i _ hi h H
    | false => exact hno i hi h
theorem Ev.loopAny {f : Nat → Nat → Option Bool} {P : Nat → Bool} (n : Nat) (hend : Ev (fun k => f k n) false)
    (hno : ∀ i r, i < n → P i = false → Ev (fun k => f k (i + 1)) r → Ev (fun k => f k i) r) (hyes : ∀ i, i < n → P i = true → Ev (fun k => f k i) true) : ∀ i, i ≤ n → Ev (fun k => f k i) (anyR P n i) :=
  Ev.loop (val := anyR P n) n (by rw [anyR_end]; exact hend) fun i hi H => by
    rw [anyR_step P hi]
    cases h : P i with
    | false => exact hno i _ hi h H
    | true => exact hyes i hi h
theorem anyR_list {α : Type} (p : α → Bool) (z : α) (l : List α) : anyR (fun j => p (l.getD j z)) l.length 0 = l.any p := by
 rw [Bool.eq_iff_iff, anyR_iff, List.any_eq_true]
 constructor
 ·rintro ⟨j, _, h, hp⟩; exact ⟨l.getD j z, by rw [List.getD_eq_getElem?_getD, List.getElem?_eq_getElem h]; exact List.getElem_mem h, hp⟩
 rintro ⟨x, hx, hp⟩; obtain ⟨j, h, rfl⟩ := List.getElem_of_mem hx; exact ⟨j, by omega, h, by rw [List.getD_eq_getElem?_getD, List.getElem?_eq_getElem h]; exact hp⟩
theorem rdOf_cast {α : Type} (d : α) (l : List α) (i : Nat) : rdOf d l (i : Int) = l.getD i d := by
 unfold rdOf; rw [Int.toNat_natCast]
theorem wrap_up {i n : Nat} (h : i < n) (hn : n ≤ 9223372036854775807) : wrap64 ((i : Int) + 1) = ((i + 1 : Nat) : Int) := by
 unfold wrap64; omega
theorem wrap_down {i : Nat} (h : 0 < i) (hn : i ≤ 9223372036854775807) : wrap64 ((i : Int) - 1) = ((i - 1 : Nat) : Int) := by
 unfold wrap64; omega
theorem toList_inj {a b : ByteArray} : a.toList = b.toList ↔ a = b := by
 constructor
 ·intro h
  rw [ByteArray.toList_eq, ByteArray.toList_eq] at h
  cases a; cases b
  simpa using h
 intro h; rw [h]
def gS (l : List ByteArray) (i : Nat) : ByteArray := l.getD i ByteArray.empty
def ltB (a b : ByteArray) : Bool := Op.bytesLess a.toList b.toList
theorem rdS_cast (l : List ByteArray) (i : Nat) : rdOf ByteArray.empty l (i : Int) = gS l i := rdOf_cast _ _ _
def namesP (l all : List ByteArray) (j : Nat) : Bool := hasS all (gS l j) && (decide (j = 0) || ltB (gS l (j - 1)) (gS l j))
def namesB (l all : List ByteArray) : Bool := allR (namesP l all) l.length 0
def shareB (a b : List ByteArray) : Bool := a.any (hasS b)
def thingsP (l : List ByteArray) (j : Nat) : Bool := nameB (gS l j) && (decide (j = 0) || ltB (gS l (j - 1)) (gS l j))
def thingsB (l : List ByteArray) : Bool := decide (l.length ≤ 8) && allR (thingsP l) l.length 0
theorem ahead_ev {α : Type} {l : List ByteArray} {i : Nat} (hi : i < l.length) (hl : l.length ≤ 9223372036854775807) {a b : Nat → Option α} {r : α}
  (H1 : (decide (i = 0) || ltB (gS l (i - 1)) (gS l i)) = true → Ev a r) (H2 : (decide (i = 0) || ltB (gS l (i - 1)) (gS l i)) = false → Ev b r) :
  Ev (fun k => if (i : Int) > 0 then (if 0 ≤ (wrap64 ((i : Int) - 1)) then (if (wrap64 ((i : Int) - 1)) < (l.length : Int) then (if ((Op.bytesLess ((rdOf ByteArray.empty l (wrap64 ((i : Int) - 1))).toList) ((rdOf ByteArray.empty l (i : Int)).toList)) = true) then a k else b k) else none) else none) else a k) r := by
 by_cases h0 : i = 0
 ·exact Ev.neg (by omega) (H1 (by simp [h0]))
 rw [wrap_down (by omega) (by omega), rdS_cast, rdS_cast]
 refine Ev.pos (by omega) (Ev.pos (by omega) (Ev.pos (by omega) (Ev.test _ (fun h => H1 ?_) (fun h => H2 ?_))))
 ·simp only [ltB, h, Bool.or_true]
 simp only [ltB, h, h0, decide_false, Bool.or_false]
theorem spec_l1In_at (n low high : Int) : spec_l1In.f n low high = some (decide (low ≤ n) && decide (n ≤ high)) := by
 unfold spec_l1In.f
 by_cases h : n ≥ low
 ·rw [if_pos h, show decide (low ≤ n) = true from decide_eq_true h]; rfl
 rw [if_neg h, show decide (low ≤ n) = false from decide_eq_false h]; rfl
theorem spec_l1NameOk_ev (s : ByteArray) : Ev (fun k => spec_l1NameOk.f k s) (nameB s) := by
 unfold spec_l1NameOk.f
 simp only [spec_l1In_at, Option.bind_some]
 refine Ev.test _ (fun h => ?_) (fun h => ?_)
 ·simp only [Bool.and_eq_true, decide_eq_true_eq] at h
  have E := Ev.loopAll (f := fun k i => spec_l1NameOk.l0 k s (i : Int)) (P := fun j => okc (bt s (j : Int))) s.size
    (by refine Ev.step (fun k => spec_l1NameOk.l0.eq_2 s _ k) ?_
        exact Ev.neg (by omega) (Ev.ret rfl))
    (fun i r hi hp H => by
      refine Ev.step (fun k => spec_l1NameOk.l0.eq_2 s _ k) ?_
      refine Ev.pos (by omega) (Ev.pos (by omega) ?_)
      simp only [okc_ite]
      rw [wrap_up hi (by omega)]
      exact Ev.pos hp H)
    (fun i hi hp => by
      refine Ev.step (fun k => spec_l1NameOk.l0.eq_2 s _ k) ?_
      refine Ev.pos (by omega) (Ev.pos (by omega) ?_)
      simp only [okc_ite]
      exact Ev.neg (by simp [hp]) (Ev.ret rfl)) 0 (by omega)
  refine Ev.sub E ?_
  unfold nameB allR
  rw [show decide (1 ≤ s.size) = true from decide_eq_true (by omega), show decide (s.size ≤ 8) = true from decide_eq_true (by omega)]
  rfl
 refine Ev.ret ?_
 unfold nameB
 by_cases h1 : 1 ≤ s.size
 ·by_cases h2 : s.size ≤ 8
  ·have : (decide ((1 : Int) ≤ (s.size : Int)) && decide ((s.size : Int) ≤ 8)) = true := by simp; omega
   rw [this] at h; cases h
  simp [h2]
 simp [h1]
theorem spec_l1Has_ev (l : List ByteArray) (s : ByteArray) (hl : l.length ≤ 9223372036854775807) : Ev (fun k => spec_l1Has.f k l s) (hasS l s) := by
 unfold spec_l1Has.f
 have E := Ev.loopAny (f := fun k i => spec_l1Has.l0 k l s (i : Int)) (P := fun j => (fun x : ByteArray => s.toList == x.toList) (l.getD j ByteArray.empty)) l.length
   (by refine Ev.step (fun k => spec_l1Has.l0.eq_2 l s _ k) ?_
       exact Ev.neg (by omega) (Ev.ret rfl))
   (fun i r hi hp H => by
     refine Ev.step (fun k => spec_l1Has.l0.eq_2 l s _ k) ?_
     refine Ev.pos (by omega) (Ev.pos (by omega) ?_)
     rw [wrap_up hi hl, rdS_cast]
     exact Ev.neg (fun e => by simp [← e, gS] at hp) H)
   (fun i hi hp => by
     refine Ev.step (fun k => spec_l1Has.l0.eq_2 l s _ k) ?_
     refine Ev.pos (by omega) (Ev.pos (by omega) ?_)
     rw [rdS_cast]
     exact Ev.pos (beq_iff_eq.mp (show (s.toList == (gS l i).toList) = true from hp)).symm (Ev.ret rfl)) 0 (by omega)
 exact Ev.sub E (anyR_list (fun x : ByteArray => s.toList == x.toList) ByteArray.empty l)
theorem contains_ev (l : List ByteArray) (s : ByteArray) (hl : l.length ≤ 9223372036854775807) : Ev (fun k => slices_Contains_string_string.f k l s) (hasS l s) :=
  Ev.of (slices_Contains_string_string.mono l s) (contains_at l s hl)
theorem name_ev (s : ByteArray) : Ev (fun k => impl_name.f k s) (nameB s) := Ev.of (impl_name.mono s) (name_at s)
theorem spec_l1NamesOk_ev (l all : List ByteArray) (hl : l.length ≤ 9223372036854775807) (ha : all.length ≤ 9223372036854775807) : Ev (fun k => spec_l1NamesOk.f k l all) (namesB l all) := by
 unfold spec_l1NamesOk.f
 refine Ev.loopAll (f := fun k i => spec_l1NamesOk.l0 k l all (i : Int)) (P := namesP l all) l.length
   (by refine Ev.step (fun k => spec_l1NamesOk.l0.eq_2 l all _ k) ?_
       exact Ev.neg (by omega) (Ev.ret rfl))
   (fun i r hi hp H => by
     simp only [namesP, Bool.and_eq_true] at hp
     refine Ev.step (fun k => spec_l1NamesOk.l0.eq_2 l all _ k) ?_
     refine Ev.pos (by omega) (Ev.pos (by omega) (Ev.bind (spec_l1Has_ev all _ ha) ?_))
     rw [rdS_cast, hp.1]
     refine Ev.pos rfl (ahead_ev hi hl (fun _ => ?_) (fun h => by rw [hp.2] at h; cases h))
     rw [wrap_up hi hl]
     exact H)
   (fun i hi hp => by
     refine Ev.step (fun k => spec_l1NamesOk.l0.eq_2 l all _ k) ?_
     refine Ev.pos (by omega) (Ev.pos (by omega) (Ev.bind (spec_l1Has_ev all _ ha) ?_))
     rw [rdS_cast]
     refine Ev.test _ (fun h1 => ahead_ev hi hl (fun h2 => ?_) (fun h => Ev.ret rfl)) (fun _ => Ev.ret rfl)
     simp only [namesP, h1, h2, Bool.and_true] at hp
     cases hp) 0 (by omega)
theorem impl_of_ev (l all : List ByteArray) (hl : l.length ≤ 9223372036854775807) (ha : all.length ≤ 9223372036854775807) : Ev (fun k => impl_of.f k l all) (namesB l all) := by
 unfold impl_of.f
 refine Ev.loopAll (f := fun k i => impl_of.l0 k l all l (l.length : Int) (i : Int)) (P := namesP l all) l.length
   (by refine Ev.step (fun k => impl_of.l0.eq_2 l all l _ _ k) ?_
       exact Ev.neg (by omega) (Ev.ret rfl))
   (fun i r hi hp H => by
     simp only [namesP, Bool.and_eq_true] at hp
     refine Ev.step (fun k => impl_of.l0.eq_2 l all l _ _ k) ?_
     refine Ev.pos (by omega) (Ev.pos (by omega) (Ev.pos (by omega) (Ev.bind (contains_ev all _ ha) ?_)))
     rw [rdS_cast, hp.1]
     refine Ev.pos rfl (ahead_ev hi hl (fun _ => ?_) (fun h => by rw [hp.2] at h; cases h))
     rw [wrap_up hi hl]
     exact H)
   (fun i hi hp => by
     refine Ev.step (fun k => impl_of.l0.eq_2 l all l _ _ k) ?_
     refine Ev.pos (by omega) (Ev.pos (by omega) (Ev.pos (by omega) (Ev.bind (contains_ev all _ ha) ?_)))
     rw [rdS_cast]
     refine Ev.test _ (fun h1 => ahead_ev hi hl (fun h2 => ?_) (fun h => Ev.ret rfl)) (fun _ => Ev.ret rfl)
     simp only [namesP, h1, h2, Bool.and_true] at hp
     cases hp) 0 (by omega)
theorem spec_l1ThingsOk_ev (l : List ByteArray) : Ev (fun k => spec_l1ThingsOk.f k l) (thingsB l) := by
 unfold spec_l1ThingsOk.f thingsB
 refine Ev.prop (fun h => Ev.ret (by rw [show decide (l.length ≤ 8) = false from decide_eq_false (by omega)]; rfl)) (fun h => ?_)
 rw [show decide (l.length ≤ 8) = true from decide_eq_true (by omega), Bool.true_and]
 have hl : l.length ≤ 9223372036854775807 := by omega
 refine Ev.loopAll (f := fun k i => spec_l1ThingsOk.l0 k l (i : Int)) (P := thingsP l) l.length
   (by refine Ev.step (fun k => spec_l1ThingsOk.l0.eq_2 l _ k) ?_
       exact Ev.neg (by omega) (Ev.ret rfl))
   (fun i r hi hp H => by
     simp only [thingsP, Bool.and_eq_true] at hp
     refine Ev.step (fun k => spec_l1ThingsOk.l0.eq_2 l _ k) ?_
     refine Ev.pos (by omega) (Ev.pos (by omega) (Ev.bind (spec_l1NameOk_ev _) ?_))
     rw [rdS_cast, hp.1]
     refine Ev.pos rfl (ahead_ev hi hl (fun _ => ?_) (fun h => by rw [hp.2] at h; cases h))
     rw [wrap_up hi hl]
     exact H)
   (fun i hi hp => by
     refine Ev.step (fun k => spec_l1ThingsOk.l0.eq_2 l _ k) ?_
     refine Ev.pos (by omega) (Ev.pos (by omega) (Ev.bind (spec_l1NameOk_ev _) ?_))
     rw [rdS_cast]
     refine Ev.test _ (fun h1 => ahead_ev hi hl (fun h2 => ?_) (fun h => Ev.ret rfl)) (fun _ => Ev.ret rfl)
     simp only [thingsP, h1, h2, Bool.and_true] at hp
     cases hp) 0 (by omega)
theorem spec_l1Share_ev (a b : List ByteArray) (ha : a.length ≤ 9223372036854775807) (hb : b.length ≤ 9223372036854775807) : Ev (fun k => spec_l1Share.f k a b) (shareB a b) := by
 unfold spec_l1Share.f
 have E := Ev.loopAny (f := fun k i => spec_l1Share.l0 k a b (i : Int)) (P := fun j => hasS b (a.getD j ByteArray.empty)) a.length
   (by refine Ev.step (fun k => spec_l1Share.l0.eq_2 a b _ k) ?_
       exact Ev.neg (by omega) (Ev.ret rfl))
   (fun i r hi hp H => by
     refine Ev.step (fun k => spec_l1Share.l0.eq_2 a b _ k) ?_
     refine Ev.pos (by omega) (Ev.pos (by omega) (Ev.bind (spec_l1Has_ev b _ hb) ?_))
     rw [rdS_cast, wrap_up hi ha]
     exact Ev.neg (by rw [show hasS b (gS a i) = false from hp]; simp) H)
   (fun i hi hp => by
     refine Ev.step (fun k => spec_l1Share.l0.eq_2 a b _ k) ?_
     refine Ev.pos (by omega) (Ev.pos (by omega) (Ev.bind (spec_l1Has_ev b _ hb) ?_))
     rw [rdS_cast]
     exact Ev.pos hp (Ev.ret rfl)) 0 (by omega)
 exact Ev.sub E (anyR_list (hasS b) ByteArray.empty a)
abbrev LB := S94
abbrev IB := S56
def toB (b : LB) : IB := ⟨b.f0, b.f1, b.f2⟩
def gB (l : List IB) (i : Nat) : IB := l.getD i z56
theorem rdB_cast (l : List IB) (i : Nat) : rd_T56 l (i : Int) = gB l i := by unfold rd_T56 gB; rw [Int.toNat_natCast]
theorem getD_lt {α : Type} (l : List α) (z : α) {i : Nat} (h : i < l.length) : l.getD i z = l[i] := by rw [List.getD_eq_getElem?_getD, List.getElem?_eq_getElem h]; rfl
def sumS (l : List ByteArray) : Nat := (l.map ByteArray.size).sum
def wS (l : List ByteArray) : Nat := l.length + sumS l
def wL (b : LB) : Nat := b.f0.size + wS b.f1 + wS b.f2
def sumL (l : List LB) : Nat := (l.map wL).sum
def wBook (ts : List ByteArray) (bs : List LB) : Nat := wS ts + (bs.length + sumL bs)
def Bok (bs : List IB) : Prop := ∀ b ∈ bs, b.f1.length ≤ 9223372036854775807 ∧ b.f2.length ≤ 9223372036854775807
theorem Bok.at_ {bs : List IB} (h : Bok bs) {i : Nat} (hi : i < bs.length) : (gB bs i).f1.length ≤ 9223372036854775807 ∧ (gB bs i).f2.length ≤ 9223372036854775807 := by
 rw [show gB bs i = bs[i] from getD_lt bs _ hi]; exact h _ (List.getElem_mem hi)
def batchP (ts : List ByteArray) (bs : List IB) (i : Nat) : Bool :=
  nameB (gB bs i).f0 && ((decide (i = 0) || ltB (gB bs (i - 1)).f0 (gB bs i).f0) && (namesB (gB bs i).f2 ts && namesB (gB bs i).f1 (gB bs i).f2))
def freeP (bs : List IB) (i : Nat) : Bool := allR (fun q => !shareB (gB bs i).f1 (gB bs q).f1) i 0
def bookB (ts : List ByteArray) (bs : List IB) : Bool := thingsB ts && (decide (bs.length ≤ 5) && allR (fun i => batchP ts bs i && freeP bs i) bs.length 0)
theorem aheadB_ev {α : Type} {bs : List IB} {i : Nat} (hi : i < bs.length) (hl : bs.length ≤ 9223372036854775807) {a b : Nat → Option α} {r s : α} (H1 : Ev a r) (H2 : Ev b s) :
  Ev (fun k => if (i : Int) > 0 then (if 0 ≤ (wrap64 ((i : Int) - 1)) then (if (wrap64 ((i : Int) - 1)) < (bs.length : Int) then (if ((Op.bytesLess (((rd_T56 bs (wrap64 ((i : Int) - 1))).f0).toList) (((rd_T56 bs (i : Int)).f0).toList)) = true) then a k else b k) else none) else none) else a k)
   (if (decide (i = 0) || ltB (gB bs (i - 1)).f0 (gB bs i).f0) = true then r else s) := by
 by_cases h0 : i = 0
 ·rw [if_pos (by simp [h0])]; exact Ev.neg (by omega) H1
 rw [wrap_down (by omega) (by omega), rdB_cast, rdB_cast, show (decide (i = 0) || ltB (gB bs (i - 1)).f0 (gB bs i).f0) = ltB (gB bs (i - 1)).f0 (gB bs i).f0 from by simp [h0]]
 refine Ev.pos (by omega) (Ev.pos (by omega) (Ev.pos (by omega) (Ev.test _ (fun h => ?_) (fun h => ?_))))
 ·rw [if_pos (show ltB (gB bs (i - 1)).f0 (gB bs i).f0 = true from h)]; exact H1
 rw [if_neg (by rw [show ltB (gB bs (i - 1)).f0 (gB bs i).f0 = false from h]; simp)]; exact H2
theorem spec_ShareBookOk_ev (ts : List ByteArray) (bs : List IB) (ht : ts.length ≤ 9223372036854775807) (hl : bs.length ≤ 9223372036854775807) (hb : Bok bs) : Ev (fun k => spec_ShareBookOk.f k ts bs) (bookB ts bs) := by
 unfold spec_ShareBookOk.f bookB
 have loop : Ev (fun k => spec_ShareBookOk.l0 k ((0 : Nat) : Int) ts bs) (allR (fun i => batchP ts bs i && freeP bs i) bs.length 0) := by
   refine Ev.loop (f := fun k i => spec_ShareBookOk.l0 k (i : Int) ts bs) (val := allR (fun i => batchP ts bs i && freeP bs i) bs.length) bs.length ?_ ?_ 0 (by omega)
   · rw [allR_end]
     refine Ev.step (fun k => spec_ShareBookOk.l0.eq_2 _ ts bs k) ?_
     exact Ev.neg (by omega) (Ev.ret rfl)
   · intro i hi H
     rw [allR_step _ hi]
     generalize allR (fun i => batchP ts bs i && freeP bs i) bs.length (i + 1) = r at H
     obtain ⟨b1, b2⟩ := hb.at_ hi
     have inner : Ev (fun k => spec_ShareBookOk.l1 k (i : Int) ((0 : Nat) : Int) ts bs (gB bs i).f0 (gB bs i).f1 (gB bs i).f2) (freeP bs i && r) := by
       refine Ev.loop (f := fun k j => spec_ShareBookOk.l1 k (i : Int) (j : Int) ts bs (gB bs i).f0 (gB bs i).f1 (gB bs i).f2) (val := fun j => allR (fun q => !shareB (gB bs i).f1 (gB bs q).f1) i j && r) i ?_ ?_ 0 (by omega)
       · simp only [allR_end, Bool.true_and]
         refine Ev.step (fun k => spec_ShareBookOk.l1.eq_2 _ _ ts bs _ _ _ k) ?_
         refine Ev.neg (by omega) ?_
         rw [wrap_up hi hl]; exact H
       · intro j hj H2
         simp only [allR_step (fun q => !shareB (gB bs i).f1 (gB bs q).f1) hj]
         refine Ev.step (fun k => spec_ShareBookOk.l1.eq_2 _ _ ts bs _ _ _ k) ?_
         refine Ev.pos (by omega) (Ev.pos (by omega) (Ev.pos (by omega) ?_))
         rw [rdB_cast, wrap_up hj (by omega)]
         refine Ev.bind (spec_l1Share_ev _ _ b1 (hb.at_ (show j < bs.length by omega)).1) ?_
         refine Ev.test _ (fun h => Ev.ret (by rw [h]; rfl)) (fun h => Ev.sub H2 (by rw [h]; rfl))
     have j2 : ∀ b, Ev (fun k => spec_ShareBookOk.j2 k (i : Int) b ts bs (gB bs i).f0 (gB bs i).f1 (gB bs i).f2) (!b && (freeP bs i && r)) := by
       intro b
       refine Ev.step (fun k => spec_ShareBookOk.j2.eq_2 _ _ ts bs _ _ _ k) ?_
       refine Ev.test _ (fun h => Ev.ret (by rw [h]; rfl)) (fun h => Ev.sub inner (by rw [h]; rfl))
     have X : Ev (fun k => (spec_l1NamesOk.f k (gB bs i).f2 ts).bind fun t => if t = true then ((spec_l1NamesOk.f k (gB bs i).f1 (gB bs i).f2).bind fun t2 => spec_ShareBookOk.j2 k (i : Int) (!t2) ts bs (gB bs i).f0 (gB bs i).f1 (gB bs i).f2) else spec_ShareBookOk.j2 k (i : Int) true ts bs (gB bs i).f0 (gB bs i).f1 (gB bs i).f2)
         (namesB (gB bs i).f2 ts && namesB (gB bs i).f1 (gB bs i).f2 && (freeP bs i && r)) := by
       refine Ev.bind (spec_l1NamesOk_ev _ _ b2 ht) ?_
       refine Ev.test _ (fun h => Ev.bind (spec_l1NamesOk_ev _ _ b1 b2) (Ev.sub (j2 _) (by rw [h]; simp))) (fun h => Ev.sub (j2 _) (by rw [h]; simp))
     refine Ev.step (fun k => spec_ShareBookOk.l0.eq_2 _ ts bs k) ?_
     refine Ev.pos (by omega) (Ev.pos (by omega) (Ev.bind (spec_l1NameOk_ev _) ?_))
     have A := aheadB_ev hi hl X (j2 true)
     rw [rdB_cast] at *
     refine Ev.test _ (fun h => Ev.sub A ?_) (fun h => Ev.sub (j2 true) ?_)
     · simp only [batchP, h, Bool.true_and]
       cases (decide (i = 0) || ltB (gB bs (i - 1)).f0 (gB bs i).f0) <;> simp [Bool.and_assoc]
     · simp [batchP, h]
 have j0 : ∀ b, Ev (fun k => spec_ShareBookOk.j0 k b ts bs) (!b && allR (fun i => batchP ts bs i && freeP bs i) bs.length 0) := by
   intro b
   refine Ev.step (fun k => spec_ShareBookOk.j0.eq_2 _ ts bs k) ?_
   refine Ev.test _ (fun h => Ev.ret (by rw [h]; rfl)) (fun h => Ev.sub loop (by rw [h]; rfl))
 refine Ev.bind (spec_l1ThingsOk_ev ts) ?_
 refine Ev.test _ (fun h => Ev.sub (j0 _) ?_) (fun h => Ev.sub (j0 _) (by rw [h]; simp))
 rw [h, show (!decide ((bs.length : Int) > 5)) = decide (bs.length ≤ 5) from by rw [Bool.eq_iff_iff]; simp; omega]
 rfl
theorem things_all (ts : List ByteArray) : (decide (ts.length ≤ 8) && (namesB ts ts && !(ts.any fun s => !nameB s))) = thingsB ts := by
 unfold thingsB
 congr 1
 rw [Bool.eq_iff_iff, Bool.and_eq_true, namesB, allR_iff, allR_iff]
 have hany : ((!(ts.any fun s => !nameB s)) = true) ↔ ∀ s ∈ ts, nameB s = true := by simp
 rw [hany]
 constructor
 ·rintro ⟨h1, h2⟩ j h0 hj
  have := h1 j h0 hj
  simp only [namesP, Bool.and_eq_true] at this
  simp only [thingsP, Bool.and_eq_true]
  exact ⟨h2 _ (by rw [show gS ts j = ts[j] from getD_lt ts _ hj]; exact List.getElem_mem hj), this.2⟩
 intro h
 refine ⟨fun j h0 hj => ?_, fun s hs => ?_⟩
 ·have := h j h0 hj
  simp only [thingsP, Bool.and_eq_true] at this
  simp only [namesP, Bool.and_eq_true]
  refine ⟨?_, this.2⟩
  unfold hasS
  rw [List.any_eq_true]
  exact ⟨gS ts j, by rw [show gS ts j = ts[j] from getD_lt ts _ hj]; exact List.getElem_mem hj, by simp⟩
 obtain ⟨j, hj, rfl⟩ := List.getElem_of_mem hs
 have := h j (by omega) hj
 simp only [thingsP, Bool.and_eq_true] at this
 rw [← show gS ts j = ts[j] from getD_lt ts _ hj]
 exact this.1
theorem impl_ShareBookOk_ev (ts : List ByteArray) (bs : List IB) (ht : ts.length ≤ 9223372036854775807) (hl : bs.length ≤ 9223372036854775807) (hb : Bok bs) : Ev (fun k => impl_ShareBookOk.f k ts bs) (bookB ts bs) := by
 unfold impl_ShareBookOk.f bookB
 have loop : Ev (fun k => impl_ShareBookOk.l0 k bs (bs.length : Int) ((0 : Nat) : Int) ts bs) (allR (fun i => batchP ts bs i && freeP bs i) bs.length 0) := by
   refine Ev.loop (f := fun k i => impl_ShareBookOk.l0 k bs (bs.length : Int) (i : Int) ts bs) (val := allR (fun i => batchP ts bs i && freeP bs i) bs.length) bs.length ?_ ?_ 0 (by omega)
   · rw [allR_end]
     refine Ev.step (fun k => impl_ShareBookOk.l0.eq_2 bs _ _ ts bs k) ?_
     exact Ev.neg (by omega) (Ev.ret rfl)
   · intro i hi H
     rw [allR_step _ hi]
     generalize allR (fun i => batchP ts bs i && freeP bs i) bs.length (i + 1) = r at H
     obtain ⟨b1, b2⟩ := hb.at_ hi
     have inner : Ev (fun k => impl_ShareBookOk.l1 k bs (bs.length : Int) (i : Int) (bs.take i) ((bs.take i).length : Int) ((0 : Nat) : Int) ts bs (gB bs i).f0 (gB bs i).f1 (gB bs i).f2) (freeP bs i && r) := by
       have hlen : (bs.take i).length = i := by rw [List.length_take]; omega
       refine Ev.loop (f := fun k j => impl_ShareBookOk.l1 k bs (bs.length : Int) (i : Int) (bs.take i) ((bs.take i).length : Int) (j : Int) ts bs (gB bs i).f0 (gB bs i).f1 (gB bs i).f2) (val := fun j => allR (fun q => !shareB (gB bs i).f1 (gB bs q).f1) i j && r) i ?_ ?_ 0 (by omega)
       · simp only [allR_end, Bool.true_and]
         refine Ev.step (fun k => impl_ShareBookOk.l1.eq_2 _ _ _ _ _ _ ts bs _ _ _ k) ?_
         refine Ev.neg (by rw [hlen]; omega) ?_
         rw [wrap_up hi hl]; exact H
       · intro j hj H2
         simp only [allR_step (fun q => !shareB (gB bs i).f1 (gB bs q).f1) hj]
         refine Ev.step (fun k => impl_ShareBookOk.l1.eq_2 _ _ _ _ _ _ ts bs _ _ _ k) ?_
         refine Ev.pos (by rw [hlen]; omega) (Ev.pos (by omega) (Ev.pos (by rw [hlen]; omega) ?_))
         rw [rdB_cast, wrap_up hj (by omega), show gB (bs.take i) j = gB bs j from by unfold gB; rw [List.getD_eq_getElem?_getD, List.getElem?_take_of_lt hj, List.getD_eq_getElem?_getD]]
         simp only [impl_common.f, Option.bind_some]
         refine Ev.test _ (fun h => Ev.ret (by rw [show shareB (gB bs i).f1 (gB bs j).f1 = true from h]; rfl)) (fun h => Ev.sub H2 (by rw [show shareB (gB bs i).f1 (gB bs j).f1 = false from h]; rfl))
     have j2 : ∀ b, Ev (fun k => impl_ShareBookOk.j2 k (i : Int) bs (bs.length : Int) (i : Int) b ts bs (gB bs i).f0 (gB bs i).f1 (gB bs i).f2) (!b && (freeP bs i && r)) := by
       intro b
       refine Ev.step (fun k => impl_ShareBookOk.j2.eq_2 _ _ _ _ _ ts bs _ _ _ k) ?_
       refine Ev.test _ (fun h => Ev.ret (by rw [h]; rfl)) (fun h => Ev.pos (by omega) (Ev.pos (by omega) ?_))
       rw [Int.toNat_natCast]
       simp only [Option.bind_some]
       exact Ev.sub inner (by rw [h]; rfl)
     have X : Ev (fun k => (impl_of.f k (gB bs i).f2 ts).bind fun t => if t = true then ((impl_of.f k (gB bs i).f1 (gB bs i).f2).bind fun t2 => impl_ShareBookOk.j2 k (i : Int) bs (bs.length : Int) (i : Int) (!t2) ts bs (gB bs i).f0 (gB bs i).f1 (gB bs i).f2) else impl_ShareBookOk.j2 k (i : Int) bs (bs.length : Int) (i : Int) true ts bs (gB bs i).f0 (gB bs i).f1 (gB bs i).f2)
         (namesB (gB bs i).f2 ts && namesB (gB bs i).f1 (gB bs i).f2 && (freeP bs i && r)) := by
       refine Ev.bind (impl_of_ev _ _ b2 ht) ?_
       refine Ev.test _ (fun h => Ev.bind (impl_of_ev _ _ b1 b2) (Ev.sub (j2 _) (by rw [h]; simp))) (fun h => Ev.sub (j2 _) (by rw [h]; simp))
     refine Ev.step (fun k => impl_ShareBookOk.l0.eq_2 _ _ _ ts bs k) ?_
     refine Ev.pos (by omega) (Ev.pos (by omega) (Ev.pos (by omega) (Ev.bind (name_ev _) ?_)))
     have A := aheadB_ev hi hl X (j2 true)
     rw [rdB_cast] at *
     refine Ev.test _ (fun h => Ev.sub A ?_) (fun h => Ev.sub (j2 true) ?_)
     · simp only [batchP, h, Bool.true_and]
       cases (decide (i = 0) || ltB (gB bs (i - 1)).f0 (gB bs i).f0) <;> simp [Bool.and_assoc]
     · simp [batchP, h]
 have j0 : ∀ b, Ev (fun k => impl_ShareBookOk.j0 k b ts bs) (!b && allR (fun i => batchP ts bs i && freeP bs i) bs.length 0) := by
   intro b
   refine Ev.step (fun k => impl_ShareBookOk.j0.eq_2 _ ts bs k) ?_
   refine Ev.test _ (fun h => Ev.ret (by rw [h]; rfl)) (fun h => Ev.sub loop (by rw [h]; rfl))
 rw [← things_all]
 refine Ev.prop (fun h => Ev.sub (j0 _) ?_) (fun h => Ev.prop (fun h2 => Ev.sub (j0 _) ?_) (fun h2 => Ev.bind (impl_of_ev ts ts ht ht) ?_))
 ·rw [show decide (ts.length ≤ 8) = false from decide_eq_false (by omega)]; rfl
 ·rw [show decide (bs.length ≤ 5) = false from decide_eq_false (by omega)]; simp
 rw [show decide (bs.length ≤ 5) = true from decide_eq_true (by omega), show decide (ts.length ≤ 8) = true from decide_eq_true (by omega)]
 simp only [slices_ContainsFunc_string_string.f, Option.bind_some]
 refine Ev.test _ (fun h => Ev.sub (j0 _) (by rw [h]; simp)) (fun h => Ev.sub (j0 _) (by rw [h]; simp))
def spec_l2Next.l0 : Nat → List ByteArray → Int → List ByteArray → List (S56) → Option (Int)
 | 0, _, _, _, _ => none
 | k + 1, c, a, d, b => if a < (b.length : Int) then (if 0 ≤ a then ((spec_l1Has.f k c ((rd_T56 b a).f0)).bind fun e => (if e = true then (spec_l2Next.l0 k c (wrap64 (a + 1)) d b) else ((spec_l2Can.f k d b a c).bind fun g => (if g = true then (some a) else (spec_l2Next.l0 k c (wrap64 (a + 1)) d b))))) else (none)) else (some (-1))
def spec_l2Next.f (k : Nat) (a7 : List ByteArray) (a4 : List (S56)) (l1 : List ByteArray) : Option (Int) := spec_l2Next.l0 k l1 0 a7 a4
theorem spec_l2Next.calls (k : Nat) (bG : Option Addr) (bH : Nat) (a7 : List ByteArray) (bL : Option Addr) (bD : Nat) (a4 : List (S56)) (A1 : Option Addr) (c1 : Nat) (l1 : List ByteArray) (r : Int) (w : World) (cZ : Kd.C Kd.string w bG a7.length a7) (cX : a7.length ≤ bH) (cU : Kd.C k56 w bL a4.length a4) (cY : a4.length ≤ bD) (qQ : Kd.C Kd.string w A1 l1.length l1) (sW : l1.length ≤ c1) (h : spec_l2Next.f k a7 a4 l1 = some r) :
  Calls Try.prog 88 #[.agg #[.slice bG a7.length bH, .slice bL a4.length bD], .slice A1 l1.length c1] w fun e w' => e = .returned (.int .i64 r) ∧ Below w.heap.size w w' := by
 have hu31 := Try.underlying31
 obtain ⟨bC, bA⟩ := mZ2 cZ cX
 obtain ⟨aK, bM⟩ := mZ2 cU cY
 obtain ⟨qX, sS⟩ := mZ2 qQ sW
 clear cZ cX cU cY qQ sW
 have HB := am (Below.refl w.heap.size w)
 unfold spec_l2Next.f at h
 have H := h
 clear h
 have H' := am H
 repeat clear H
 go_enter Try.func88, Try.ntmps88
 go_wp2_with (first | ((with_reducible refine gD 2 ?_); refine bX 2 #[.slice bG a7.length bH, .slice bL a4.length bD] 31 ?_; intro a6 hg w3 hbox hb; have a3 := am hbox; have bR := am (hJ : w.heap.size ≤ a6); have cJ := bR; replace HB := bS cI hb; clear hb hbox hg))
 go_loopg [5] k (fun kq v5 w' => ∃ (aW : Int), v5 = .int .i64 aW ∧ Aside0 (spec_l2Next.l0 kq l1 aW a7 a4 = some r) ∧ Aside0 (kq ≤ k) ∧ Aside0 (w'.heap[a6]? = some (.cells #[(.slice bG a7.length bH), (.slice bL a4.length bD)] 31 (0, 0))) ∧ Aside0 (Below w.heap.size w w'))
 case atStart => exact ⟨(0), aQ, H', ⟨Nat.le_refl _⟩, ⟨rB a3.1⟩, ⟨aY⟩⟩
 clear H'
 try clear c1
 obtain ⟨aW, rfl, HA, HK1, a3, HB⟩ := hrel
 cases gk with
 | zero => exact absurd HA.out (by simp [spec_l2Next.l0])
 | succ k1 =>
  have H := HA.out
  clear HA
  simp only [spec_l2Next.l0] at H
  refine ic H ?_ ?_ <;> clear H <;> intro jE H
  ·obtain ⟨pH, H⟩ := cN H
   obtain ⟨bE, A6, H⟩ := bd H
   refine tC H ?_ ?_ <;> clear H <;> intro c7 H <;> subst c7
   ·have H' := am H
    repeat clear H
    have Z8 := cz2 a3
    obtain ⟨fA, iO, iU, iP, iV, iE, f7, fQ, fT, g7, fZ, j7, j5, oF, oH⟩ := aT56 aK HB aW
    cases iE
    go_wp2_with (first | ((with_reducible refine gC 80 ?_); refine cQ (some 20) Try.func80 (spec_l1Has.calls k1 _ _ l1 ((rd_T56 a4 aW).f0) true _ (pB qX) sS.1 A6.out) ?_; rintro w' ⟨nd, rfl⟩))
    go_roundg k1
    case measure => have := HK1.out; omega
    case rel => exact ⟨(wrap64 (aW + 1)), aQ, H', ⟨by have := HK1.out; omega⟩, ⟨rB a3.1⟩, ⟨aY⟩⟩
   ·obtain ⟨aN, A9, H⟩ := bd H
    refine tC H ?_ ?_ <;> clear H <;> intro D9 H <;> subst D9
    ·obtain rfl := Option.some.inj H
     repeat clear H
     have LT := cz2 a3
     obtain ⟨fA, iO, iU, iP, iV, iE, f7, fQ, fT, g7, fZ, j7, j5, oF, oH⟩ := aT56 aK HB aW
     cases iE
     go_wp2_with (first | ((with_reducible refine gC 80 ?_); refine cQ (some 20) Try.func80 (spec_l1Has.calls k1 _ _ l1 ((rd_T56 a4 aW).f0) false _ (pB qX) sS.1 A6.out) ?_; rintro w' ⟨nd, rfl⟩) | (go_at_call 83; refine cM (spec_l2Can.calls k1 _ _ a7 _ _ a4 aW _ _ l1 true _ (pC (Kd.C_below bC.1 aY)) bA.1 (pC (Kd.C_below aK.1 aY)) bM.1 (pC (Kd.C_below qX.1 aY)) sS.1 A9.out) ?_; rintro Sj hb; replace a3 := bB aC hb; replace HB := bS aY hb; (try clear hb)))
     go_ret
     exact ⟨eR, aY⟩
    ·have H' := am H
     repeat clear H
     have OH := cz2 a3
     obtain ⟨fA, iO, iU, iP, iV, iE, f7, fQ, fT, g7, fZ, j7, j5, oF, oH⟩ := aT56 aK HB aW
     cases iE
     go_wp2_with (first | ((with_reducible refine gC 80 ?_); refine cQ (some 20) Try.func80 (spec_l1Has.calls k1 _ _ l1 ((rd_T56 a4 aW).f0) false _ (pB qX) sS.1 A6.out) ?_; rintro w' ⟨nd, rfl⟩) | (go_at_call 83; refine cM (spec_l2Can.calls k1 _ _ a7 _ _ a4 aW _ _ l1 false _ (pC (Kd.C_below bC.1 aY)) bA.1 (pC (Kd.C_below aK.1 aY)) bM.1 (pC (Kd.C_below qX.1 aY)) sS.1 A9.out) ?_; rintro GS hb; replace a3 := bB aC hb; replace HB := bS aY hb; (try clear hb)))
     go_roundg k1
     case measure => have := HK1.out; omega
     case rel => exact ⟨(wrap64 (aW + 1)), aQ, H', ⟨by have := HK1.out; omega⟩, ⟨rB a3.1⟩, ⟨aY⟩⟩
  ·obtain rfl := Option.some.inj H
   repeat clear H
   have Eo := cz2 a3
   go_wp2
   go_ret
   exact ⟨eR, aY⟩
def spec_ShareOrder.l0 : Nat → List ByteArray → List ByteArray → List (S56) → Option (List ByteArray × Bool)
 | 0, _, _, _ => none
 | k + 1, a, d, b => if (a.length : Int) < (b.length : Int) then ((spec_l2Next.f k d b a).bind fun c => (if c < 0 then (some ((([] : List ByteArray)), false)) else (if 0 ≤ c then (if c < (b.length : Int) then (if a.length < 8796093022208 then (spec_ShareOrder.l0 k (a ++ [(rd_T56 b c).f0]) d b) else (none)) else (none)) else (none)))) else (some (a, true))
def spec_ShareOrder.f (k : Nat) (a7 : List ByteArray) (a4 : List (S56)) : Option (List ByteArray × Bool) := (some (([] : List ByteArray) : List ByteArray)).bind fun a => ((spec_ShareBookOk.f k a7 a4).bind fun b => (if b = true then (spec_ShareOrder.l0 k a a7 a4) else (some (a, false))))
theorem spec_ShareOrder.calls (k : Nat) (bG : Option Addr) (bH : Nat) (a7 : List ByteArray) (bL : Option Addr) (bD : Nat) (a4 : List (S56)) (r1 : List ByteArray) (r2 : Bool) (w : World) (cZ : Kd.C Kd.string w bG a7.length a7) (cX : a7.length ≤ bH) (cU : Kd.C k56 w bL a4.length a4) (cY : a4.length ≤ bD) (h : spec_ShareOrder.f k a7 a4 = some (r1, r2)) :
  Calls Try.prog 44 #[.agg #[.slice bG a7.length bH, .slice bL a4.length bD]] w fun e w' => ∃ v0_ : Value, e = .returned (.tuple #[v0_, .bool r2]) ∧ Kd.R Kd.string 9 w' w.heap.size (fun _ => True) v0_ r1 ∧ Below w.heap.size w w' := by
 have hu31 := Try.underlying31
 obtain ⟨bC, bA⟩ := mZ2 cZ cX
 obtain ⟨aK, bM⟩ := mZ2 cU cY
 clear cZ cX cU cY
 have HB := am (Below.refl w.heap.size w)
 unfold spec_ShareOrder.f at h
 have H := h
 clear h
 obtain ⟨CU, hy102⟩ : ∃ y_ : List ByteArray, y_ = (([] : List ByteArray)) := ⟨_, rfl⟩
 replace H : ((spec_ShareBookOk.f k a7 a4).bind fun e7 => (if e7 = true then (spec_ShareOrder.l0 k CU a7 a4) else (some (CU, false)))) = some (r1, r2) := by first | (rw [hy102]; with_reducible exact H) | (have H2_ := (Option.bind_some _ _).symm.trans H; rw [hy102]; with_reducible exact H2_) | (have H2_ := (Option.bind_some _ _).symm.trans H; with_reducible exact H2_) | with_reducible exact H | (rw [hy102]; exact H) | exact H
 have sL := am hy102
 clear hy102
 obtain ⟨e7, A2, H⟩ := bd H
 refine tC H ?_ ?_ <;> clear H <;> intro c3 H <;> subst c3
 ·have H' := am H
  repeat clear H
  go_enter Try.func44, Try.ntmps44
  go_wp2_with (first | ((with_reducible refine gD 1 ?_); refine bX 1 #[.slice bG a7.length bH, .slice bL a4.length bD] 31 ?_; intro a6 hg w4 hbox hb; have a3 := am hbox; have bR := am (hJ : w.heap.size ≤ a6); have cJ := bR; replace HB := bS cI hb; clear hb hbox hg) | ((with_reducible refine gate_dst (N := 6) rfl ?_); refine lS 9 6 sL ?_; intro vW w5 DO hb; have dK := am (Kd.R_lower DO (below_size aY)); replace a3 := bB aC hb; replace HB := bS aY hb; clear hb DO; have Z7 := cz2 a3) | ((with_reducible refine gC 22 ?_); refine cQ (some 8) Try.func22 (spec_ShareBookOk.calls k _ _ a7 _ _ a4 true _ (pB bC) bA.1 (pB aK) bM.1 A2.out) ?_; rintro w8 hb; replace dK := RB qK hb; replace a3 := bB aC hb; replace HB := bS aY hb; (try clear hb)))
  go_loopg [4] k (fun kq v4 w' => ∃ (dP : List ByteArray), Aside0 (spec_ShareOrder.l0 kq dP a7 a4 = some (r1, r2)) ∧ Aside0 (kq ≤ k) ∧ Aside0 (Kd.R Kd.string 9 w' w.heap.size (fun _ => True) v4 dP) ∧ Aside0 (w'.heap[a6]? = some (.cells #[(.slice bG a7.length bH), (.slice bL a4.length bD)] 31 (0, 0))) ∧ Aside0 (Below w.heap.size w w'))
  case atStart => exact ⟨(CU), H', ⟨Nat.le_refl _⟩, ⟨rR dK.1⟩, ⟨rB a3.1⟩, ⟨aY⟩⟩
  clear H'
  try clear c3
  try clear Z7
  obtain ⟨dP, HA, HK1, eC, a3, HB⟩ := hrel
  cases gk with
  | zero => exact absurd HA.out (by simp [spec_ShareOrder.l0])
  | succ k1 =>
   have H := HA.out
   clear HA
   simp only [spec_ShareOrder.l0] at H
   by_cases c9 : (dP.length : Int) < (a4.length : Int)
   ·rw [if_pos c9] at H
    have vQ : decide ((dP.length : Int) < (a4.length : Int)) = true := decide_eq_true c9
    have JB : decide (dP.length < a4.length) = true := decide_eq_true (Int.ofNat_lt.mp c9)
    clear c9
    obtain ⟨bT, VE, H⟩ := bd H
    refine ic H ?_ ?_ <;> clear H <;> intro qH H
    ·obtain ⟨z6, hy107⟩ : ∃ y_ : List ByteArray, y_ = (([] : List ByteArray)) := ⟨_, rfl⟩
     replace H : (some (z6, false)) = some (r1, r2) := by first | (rw [hy107]; with_reducible exact H) | (have H2_ := (Option.bind_some _ _).symm.trans H; rw [hy107]; with_reducible exact H2_) | (have H2_ := (Option.bind_some _ _).symm.trans H; with_reducible exact H2_) | with_reducible exact H | (rw [hy107]; exact H) | exact H
     have tA := am hy107
     clear hy107
     obtain ⟨rfl, rfl⟩ := sZ2 H
     repeat clear H
     obtain ⟨gI, gJ, SP⟩ := Kd.R_slice eC.1
     subst SP
     have OH := cz2 a3
     go_wp2_with (first | ((with_reducible refine gC 88 ?_); refine cQ (some 19) Try.func88 (spec_l2Next.calls k1 _ _ a7 _ _ a4 _ _ dP bT _ (pB bC) bA.1 (pB aK) bM.1 (pC (Kd.R_reads' eC.1).2.2) ((Kd.R_reads' eC.1).2.1) VE.out) ?_; rintro GS hb; replace eC := RB p2 hb; replace a3 := bB aC hb; replace HB := bS aY hb; (try clear hb)) | ((with_reducible refine gate_dst (N := 22) rfl ?_); refine lS 9 22 tA ?_; intro qN Dm H9 hb; have bV := am (Kd.R_lower (Kd.R_new' H9 (Kd.R_lt p2)) (below_size aY)); replace eC := am (Kd.R_elder' p2 (Kd.R_base H9) hb); replace a3 := bB aC hb; replace HB := bS aY hb; clear hb H9))
     go_ret2
     exact ⟨_, eR, by refine rR ?_; exact Kd.R_mono bV.1 (fun _ hk => trivial), aY⟩
    ·obtain ⟨OM, H⟩ := cN H
     obtain ⟨mF, H⟩ := cN H
     obtain ⟨XE, H⟩ := cL H
     obtain ⟨FE, lU⟩ := yv (dP ++ [(rd_T56 a4 bT).f0]); first | replace H := bW lU H | rw [← lU.1] at H
     have H' := am H
     repeat clear H
     obtain ⟨jJ, eM, yG⟩ := Kd.R_slice eC.1
     subst yG
     have kv := cz2 a3
     go_wp2_with (first | ((with_reducible refine gC 88 ?_); refine cQ (some 19) Try.func88 (spec_l2Next.calls k1 _ _ a7 _ _ a4 _ _ dP bT _ (pB bC) bA.1 (pB aK) bM.1 (pC (Kd.R_reads' eC.1).2.2) ((Kd.R_reads' eC.1).2.1) VE.out) ?_; rintro KF hb; replace eC := RB p2 hb; replace a3 := bB aC hb; replace HB := bS aY hb; (try clear hb); have kw := cz2 a3; obtain ⟨yB, AC, AV, AD, AW, BC, xT, pQ, pR, xE, x6, xF, x9, MV, N1⟩ := aT56 aK HB bT; cases BC) | ((with_reducible refine gate_builtin (b := .append) (xs := #[.tmp 23, .tmp 30]) rfl ?_); at_builtin; refine Kd.R_append Kd.string (w0 := w) w.heap.size rfl (.tmp 23) (.tmp 30) 23 9 (.string ⟨#[]⟩) 16 rfl Try.underlying23 info9 rfl (by decide) (by omega) (.slice jJ dP.length eM) dP ((rd_T56 a4 bT).f0) [.string ((rd_T56 a4 bT).f0)] (fun _ => True) (fun _ => False) rfl rfl ?aP (fun _ hk => hk.elim) ?aF ?aO ?aB ?aS ?aL ?_; (case aP => exact rfl); (case aB => exact aY); (case aF => exact (fun _ _ => trivial)); (case aO => exact p2); (case aS => exact (below_size aY)); (case aL => have := XE.out; omega); intro yL sb ho hb hg hat; rw [← lU.out] at ho; replace a3 := gkR aC hg eC a3; replace HB := am hb; have eP := am ho; clear eC; clear ho hb hg hat))
     go_roundg k1
     case measure => have := HK1.out; omega
     case rel => exact ⟨(FE), H', ⟨by have := HK1.out; omega⟩, ⟨rR eP.1⟩, ⟨rB a3.1⟩, ⟨aY⟩⟩
   ·rw [if_neg c9] at H
    have vQ : decide ((dP.length : Int) < (a4.length : Int)) = false := decide_eq_false c9
    have JB : decide (dP.length < a4.length) = false := decide_eq_false (fun h => c9 (Int.ofNat_lt.mpr h))
    clear c9
    obtain ⟨rfl, rfl⟩ := sZ2 H
    repeat clear H
    obtain ⟨Q5, RV, M3⟩ := Kd.R_slice eC.1
    subst M3
    have Mp := cz2 a3
    go_wp2
    go_ret2
    exact ⟨_, eR, rR eC.1, aY⟩
 obtain ⟨rfl, rfl⟩ := sZ2 H
 repeat clear H
 go_enter Try.func44, Try.ntmps44
 go_wp2_with (first | ((with_reducible refine gD 1 ?_); refine bX 1 #[.slice bG a7.length bH, .slice bL a4.length bD] 31 ?_; intro a6 hg Kq hbox hb; have a3 := am hbox; have bR := am (hJ : w.heap.size ≤ a6); have cJ := bR; replace HB := bS cI hb; clear hb hbox hg) | ((with_reducible refine gate_dst (N := 6) rfl ?_); refine lS 9 6 sL ?_; intro vW Kr Ck hb; have dK := am (Kd.R_lower Ck (below_size aY)); replace a3 := bB aC hb; replace HB := bS aY hb; clear hb Ck; have la := cz2 a3) | ((with_reducible refine gC 22 ?_); refine cQ (some 8) Try.func22 (spec_ShareBookOk.calls k _ _ a7 _ _ a4 false _ (pB bC) bA.1 (pB aK) bM.1 A2.out) ?_; rintro Ks hb; replace dK := RB qK hb; replace a3 := bB aC hb; replace HB := bS aY hb; (try clear hb)))
 go_ret2
 exact ⟨_, eR, rR dK.1, aY⟩
def spec_ShareSafe.f (k : Nat) (a7 : List ByteArray) (a4 : List (S56)) : Option (Bool) := (spec_ShareOrder.f k a7 a4).bind fun a => (some a.2)
theorem spec_ShareSafe.calls (k : Nat) (bG : Option Addr) (bH : Nat) (a7 : List ByteArray) (bL : Option Addr) (bD : Nat) (a4 : List (S56)) (r : Bool) (w : World) (cZ : Kd.C Kd.string w bG a7.length a7) (cX : a7.length ≤ bH) (cU : Kd.C k56 w bL a4.length a4) (cY : a4.length ≤ bD) (h : spec_ShareSafe.f k a7 a4 = some r) :
  Calls Try.prog 35 #[.agg #[.slice bG a7.length bH, .slice bL a4.length bD]] w fun e w' => e = .returned (.bool r) ∧ Below w.heap.size w w' := by
 have hu31 := Try.underlying31
 obtain ⟨bC, bA⟩ := mZ2 cZ cX
 obtain ⟨aK, bM⟩ := mZ2 cU cY
 clear cZ cX cU cY
 have HB := am (Below.refl w.heap.size w)
 unfold spec_ShareSafe.f at h
 have H := h
 clear h
 obtain ⟨⟨eB, e7⟩, A2, H⟩ := bd H
 dsimp only at H
 obtain rfl := Option.some.inj H
 repeat clear H
 go_enter Try.func35, Try.ntmps35
 go_wp2_with (first | ((with_reducible refine gD 1 ?_); refine bX 1 #[.slice bG a7.length bH, .slice bL a4.length bD] 31 ?_; intro a6 hg w3 hbox hb; have a3 := am hbox; have bR := am (hJ : w.heap.size ≤ a6); have cJ := bR; replace HB := bS cI hb; clear hb hbox hg; have Z4 := cz2 a3) | ((with_reducible refine gC 44 ?_); refine cE (some 7) Try.func44 (spec_ShareOrder.calls k _ _ a7 _ _ a4 eB e7 _ (pB bC) bA.1 (pB aK) bM.1 A2.out) ?_; rintro e w5 ⟨vW, rfl, bQ, hb⟩; refine ⟨_, rfl, ?_⟩; have dK := am (Kd.R_lower bQ (below_size aY)); replace a3 := bB aC hb; replace HB := bS aY hb; (try clear hb); (try clear bQ)))
 go_ret
 exact ⟨eR, aY⟩
def findR (P : Nat → Bool) (n i : Nat) : Option Nat := (List.range' i (n - i)).find? P
theorem findR_end (P : Nat → Bool) (n : Nat) : findR P n n = none := by simp [findR]
theorem findR_step (P : Nat → Bool) {n i : Nat} (h : i < n) : findR P n i = if P i = true then some i else findR P n (i + 1) := by
 unfold findR; rw [show n - i = (n - (i + 1)) + 1 by omega, List.range'_succ, List.find?_cons]
 cases P i <;> rfl
def filterR (P : Nat → Bool) (n i : Nat) : List Nat := (List.range' i (n - i)).filter P
theorem filterR_end (P : Nat → Bool) (n : Nat) : filterR P n n = [] := by simp [filterR]
theorem filterR_step (P : Nat → Bool) {n i : Nat} (h : i < n) : filterR P n i = if P i = true then i :: filterR P n (i + 1) else filterR P n (i + 1) := by
 unfold filterR; rw [show n - i = (n - (i + 1)) + 1 by omega, List.range'_succ, List.filter_cons]
def canP (bs : List IB) (at_ : Nat) (gone : List ByteArray) (q : Nat) : Bool := decide (q = at_) || (hasS gone (gB bs q).f0 || !shareB (gB bs q).f1 (gB bs at_).f2)
def canB (bs : List IB) (at_ : Nat) (gone : List ByteArray) : Bool := allR (canP bs at_ gone) bs.length 0
theorem spec_l2Can_ev (ts : List ByteArray) (bs : List IB) (at_ : Nat) (gone : List ByteArray) (hl : bs.length ≤ 9223372036854775807) (hb : Bok bs) (ha : at_ < bs.length) (hg : gone.length ≤ 9223372036854775807) : Ev (fun k => spec_l2Can.f k ts bs (at_ : Int) gone) (canB bs at_ gone) := by
 unfold spec_l2Can.f
 have b0 := hb.at_ ha
 refine Ev.loop (f := fun k i => spec_l2Can.l0 k (at_ : Int) gone (i : Int) ts bs) (val := allR (canP bs at_ gone) bs.length) bs.length ?_ ?_ 0 (by omega)
 ·rw [allR_end]
  refine Ev.step (fun k => spec_l2Can.l0.eq_2 _ gone _ ts bs k) ?_
  exact Ev.neg (by omega) (Ev.ret rfl)
 intro i hi H
 rw [allR_step _ hi]
 refine Ev.step (fun k => spec_l2Can.l0.eq_2 _ gone _ ts bs k) ?_
 refine Ev.pos (by omega) ?_
 rw [wrap_up hi hl, rdB_cast, rdB_cast]
 have bi := hb.at_ hi
 refine Ev.prop (fun h => Ev.sub H (by simp [canP, show i = at_ by omega])) (fun h => Ev.pos (by omega) (Ev.bind (spec_l1Has_ev gone _ hg) ?_))
 have hne : decide (i = at_) = false := decide_eq_false (by omega)
 refine Ev.test _ (fun h1 => Ev.sub H (by simp [canP, h1])) (fun h1 => Ev.pos (by omega) (Ev.pos (by omega) (Ev.bind (spec_l1Share_ev _ _ bi.1 b0.2) ?_)))
 refine Ev.test _ (fun h2 => Ev.ret (by simp [canP, h1, h2, hne])) (fun h2 => Ev.sub H (by simp [canP, h2]))
theorem impl_can_ev (ts : List ByteArray) (bs : List IB) (at_ : Nat) (gone : List ByteArray) (hl : bs.length ≤ 9223372036854775807) (ha : at_ < bs.length) (hg : gone.length ≤ 9223372036854775807) : Ev (fun k => impl_ShareBook_can.f k ts bs (at_ : Int) gone) (canB bs at_ gone) := by
 unfold impl_ShareBook_can.f
 refine Ev.loop (f := fun k i => impl_ShareBook_can.l0 k (at_ : Int) gone bs (bs.length : Int) (i : Int) ts bs) (val := allR (canP bs at_ gone) bs.length) bs.length ?_ ?_ 0 (by omega)
 ·rw [allR_end]
  refine Ev.step (fun k => impl_ShareBook_can.l0.eq_2 _ gone bs _ _ ts bs k) ?_
  exact Ev.neg (by omega) (Ev.ret rfl)
 intro i hi H
 rw [allR_step _ hi]
 refine Ev.step (fun k => impl_ShareBook_can.l0.eq_2 _ gone bs _ _ ts bs k) ?_
 refine Ev.pos (by omega) (Ev.pos (by omega) (Ev.pos (by omega) ?_))
 rw [wrap_up hi hl, rdB_cast, rdB_cast]
 refine Ev.prop (fun h => Ev.sub H (by simp [canP, show i = at_ by omega])) (fun h => Ev.bind (contains_ev gone _ hg) ?_)
 have hne : decide (i = at_) = false := decide_eq_false (by omega)
 refine Ev.test _ (fun h1 => Ev.sub H (by simp [canP, h1])) (fun h1 => Ev.pos (by omega) (Ev.pos (by omega) ?_))
 simp only [impl_common.f, Option.bind_some]
 refine Ev.test _ (fun h2 => Ev.ret (by simp [canP, h1, hne, show shareB (gB bs i).f1 (gB bs at_).f2 = true from h2])) (fun h2 => Ev.sub H (by simp [canP, show shareB (gB bs i).f1 (gB bs at_).f2 = false from h2]))
def movesL (bs : List IB) (i : Nat) : List ByteArray := (filterR (fun i => canB bs i []) bs.length i).map fun i => (gB bs i).f0
def movesB (ts : List ByteArray) (bs : List IB) : List ByteArray := if bookB ts bs = true then movesL bs 0 else []
theorem movesL_step {bs : List IB} {i : Nat} (hi : i < bs.length) : movesL bs i = if canB bs i [] = true then (gB bs i).f0 :: movesL bs (i + 1) else movesL bs (i + 1) := by
 unfold movesL; rw [filterR_step _ hi]; cases canB bs i [] <;> rfl
theorem movesL_end (bs : List IB) : movesL bs bs.length = [] := by unfold movesL; rw [filterR_end]; rfl
theorem book_five {ts : List ByteArray} {bs : List IB} (h : bookB ts bs = true) : bs.length ≤ 5 := by
 unfold bookB at h; simp only [Bool.and_eq_true, decide_eq_true_eq] at h; exact h.2.1
theorem spec_ShareMoves_ev (ts : List ByteArray) (bs : List IB) (ht : ts.length ≤ 9223372036854775807) (hl : bs.length ≤ 9223372036854775807) (hb : Bok bs) : Ev (fun k => spec_ShareMoves.f k ts bs) (movesB ts bs) := by
 unfold spec_ShareMoves.f
 have go : ∀ (d i : Nat) (x : List ByteArray), bs.length - i = d → i ≤ bs.length → x.length ≤ i → Ev (fun k => spec_ShareMoves.l0 k x (i : Int) ts bs) (x ++ if bookB ts bs = true then movesL bs i else []) := by
  intro d
  induction d with
  | zero =>
   intro i x hd hi hx
   have e : i = bs.length := by omega
   refine Ev.step (fun k => spec_ShareMoves.l0.eq_2 x _ ts bs k) (Ev.neg (by omega) ?_)
   refine Ev.step (fun k => spec_ShareMoves.j1.eq_2 x _ _ ts bs k) (Ev.neg (by simp) (Ev.ret ?_))
   subst e
   rw [movesL_end, ite_self, List.append_nil]
  | succ d ih =>
   intro i x hd hi hx
   have hlt : i < bs.length := by omega
   refine Ev.step (fun k => spec_ShareMoves.l0.eq_2 x _ ts bs k) (Ev.pos (by omega) (Ev.bind (spec_ShareBookOk_ev ts bs ht hl hb) ?_))
   refine Ev.step (fun k => spec_ShareMoves.j1.eq_2 x _ _ ts bs k) ?_
   refine Ev.test _ (fun h => ?_) (fun h => Ev.ret (by simp [h]))
   have h5 := book_five h
   refine Ev.bind (spec_l2Can_ev ts bs i [] hl hb hlt (by simp)) ?_
   rw [rdB_cast, wrap_up hlt hl, if_pos h, movesL_step hlt]
   refine Ev.test _ (fun h2 => Ev.pos (by omega) (Ev.pos (by omega) (Ev.pos (by omega) ?_))) (fun h2 => ?_)
   ·refine Ev.sub (ih (i + 1) (x ++ [(gB bs i).f0]) (by omega) (by omega) (by simp; omega)) ?_
    rw [if_pos h, if_pos h2, List.append_assoc]; rfl
   ·refine Ev.sub (ih (i + 1) x (by omega) (by omega) (by omega)) ?_
    rw [if_pos h, if_neg (by simp [h2])]
 exact go bs.length 0 [] (by omega) (by omega) (by simp)
theorem impl_ShareMoves_ev (ts : List ByteArray) (bs : List IB) (ht : ts.length ≤ 9223372036854775807) (hl : bs.length ≤ 9223372036854775807) (hb : Bok bs) : Ev (fun k => impl_ShareMoves.f k ts bs) (movesB ts bs) := by
 unfold impl_ShareMoves.f movesB
 refine Ev.bind (impl_ShareBookOk_ev ts bs ht hl hb) (Ev.test _ (fun h => ?_) (fun h => Ev.ret (by simp [h])))
 have h5 := book_five h
 rw [if_pos h]
 have go : ∀ (d i : Nat) (x : List ByteArray), bs.length - i = d → i ≤ bs.length → x.length ≤ i → Ev (fun k => impl_ShareMoves.l0 k x bs (bs.length : Int) (i : Int) ts bs) (x ++ movesL bs i) := by
  intro d
  induction d with
  | zero =>
   intro i x hd hi hx
   have e : i = bs.length := by omega
   refine Ev.step (fun k => impl_ShareMoves.l0.eq_2 x bs _ _ ts bs k) (Ev.neg (by omega) (Ev.ret ?_))
   subst e
   rw [movesL_end, List.append_nil]
  | succ d ih =>
   intro i x hd hi hx
   have hlt : i < bs.length := by omega
   refine Ev.step (fun k => impl_ShareMoves.l0.eq_2 x bs _ _ ts bs k) (Ev.pos (by omega) (Ev.pos (by omega) (Ev.pos (by omega) (Ev.bind (impl_can_ev ts bs i [] hl hlt (by simp)) ?_))))
   rw [rdB_cast, wrap_up hlt hl, movesL_step hlt]
   refine Ev.test _ (fun h2 => Ev.pos (by omega) ?_) (fun h2 => ?_)
   ·refine Ev.sub (ih (i + 1) (x ++ [(gB bs i).f0]) (by omega) (by omega) (by simp; omega)) ?_
    rw [if_pos h2, List.append_assoc]; rfl
   ·refine Ev.sub (ih (i + 1) x (by omega) (by omega) (by omega)) ?_
    rw [if_neg (by simp [h2])]
 exact go bs.length 0 [] (by omega) (by omega) (by simp)
def stuckB (ts : List ByteArray) (bs : List IB) : Bool := bookB ts bs && (decide (0 < bs.length) && (movesB ts bs).isEmpty)
theorem isEmpty_len (l : List ByteArray) : ((l.length : Int) == 0) = l.isEmpty := by cases l with
  | nil => rfl
  | cons a l => rw [List.isEmpty_cons, beq_eq_false_iff_ne, List.length_cons]; omega
theorem spec_ShareStuck_ev (ts : List ByteArray) (bs : List IB) (ht : ts.length ≤ 9223372036854775807) (hl : bs.length ≤ 9223372036854775807) (hb : Bok bs) : Ev (fun k => spec_ShareStuck.f k ts bs) (stuckB ts bs) := by
 unfold spec_ShareStuck.f stuckB
 refine Ev.bind (spec_ShareBookOk_ev ts bs ht hl hb) (Ev.test _ (fun h => Ev.prop (fun h2 => Ev.bind (spec_ShareMoves_ev ts bs ht hl hb) (Ev.ret ?_)) (fun h2 => Ev.ret ?_)) (fun h => Ev.ret (by simp [h])))
 ·rw [h, show decide (0 < bs.length) = true from decide_eq_true (by omega), isEmpty_len]; rfl
 rw [show decide (0 < bs.length) = false from decide_eq_false (by omega)]; simp
theorem impl_ShareStuck_ev (ts : List ByteArray) (bs : List IB) (ht : ts.length ≤ 9223372036854775807) (hl : bs.length ≤ 9223372036854775807) (hb : Bok bs) : Ev (fun k => impl_ShareStuck.f k ts bs) (stuckB ts bs) := by
 unfold impl_ShareStuck.f stuckB
 refine Ev.bind (impl_ShareBookOk_ev ts bs ht hl hb) (Ev.test _ (fun h => Ev.prop (fun h2 => Ev.bind (impl_ShareMoves_ev ts bs ht hl hb) (Ev.ret ?_)) (fun h2 => Ev.ret ?_)) (fun h => Ev.ret (by simp [h])))
 ·rw [h, show decide (0 < bs.length) = true from decide_eq_true (by omega), isEmpty_len]; rfl
 rw [show decide (0 < bs.length) = false from decide_eq_false (by omega)]; simp
def nextP (bs : List IB) (gone : List ByteArray) (i : Nat) : Bool := !hasS gone (gB bs i).f0 && canB bs i gone
def nextB (bs : List IB) (gone : List ByteArray) : Option Nat := findR (nextP bs gone) bs.length 0
def orderGo (bs : List IB) : Nat → List ByteArray → List ByteArray × Bool
  | 0, gone => (gone, true)
  | d + 1, gone => match nextB bs gone with
    | none => ([], false)
    | some i => orderGo bs d (gone ++ [(gB bs i).f0])
def orderB (ts : List ByteArray) (bs : List IB) : List ByteArray × Bool := if bookB ts bs = true then orderGo bs bs.length [] else ([], false)
theorem findR_lt {P : Nat → Bool} {n i j : Nat} (h : findR P n i = some j) : i ≤ j ∧ j < n ∧ P j = true := by
 unfold findR at h
 have h1 := List.find?_some h
 have h2 := List.mem_of_find?_eq_some h
 rw [List.mem_range'_1] at h2
 exact ⟨by omega, by omega, h1⟩
theorem spec_l2Next_ev (ts : List ByteArray) (bs : List IB) (gone : List ByteArray) (hl : bs.length ≤ 9223372036854775807) (hb : Bok bs) (hg : gone.length ≤ 9223372036854775807) : Ev (fun k => spec_l2Next.f k ts bs gone) (((nextB bs gone).map fun (i : Nat) => (i : Int)).getD (-1)) := by
 unfold spec_l2Next.f nextB
 refine Ev.loop (f := fun k i => spec_l2Next.l0 k gone (i : Int) ts bs) (val := fun i => ((findR (nextP bs gone) bs.length i).map fun (i : Nat) => (i : Int)).getD (-1)) bs.length ?_ ?_ 0 (by omega)
 ·refine Ev.step (fun k => spec_l2Next.l0.eq_2 gone _ ts bs k) (Ev.neg (by omega) (Ev.ret (by simp [findR_end])))
 intro i hi H
 simp only [findR_step (nextP bs gone) hi]
 refine Ev.step (fun k => spec_l2Next.l0.eq_2 gone _ ts bs k) (Ev.pos (by omega) (Ev.pos (by omega) (Ev.bind (spec_l1Has_ev gone _ hg) ?_)))
 rw [rdB_cast, wrap_up hi hl]
 refine Ev.test _ (fun h => Ev.sub H (by simp [nextP, h])) (fun h => Ev.bind (spec_l2Can_ev ts bs i gone hl hb hi hg) ?_)
 refine Ev.test _ (fun h2 => Ev.ret (by simp [nextP, h, h2])) (fun h2 => Ev.sub H (by simp [nextP, h2]))
theorem spec_ShareOrder_ev (ts : List ByteArray) (bs : List IB) (ht : ts.length ≤ 9223372036854775807) (hl : bs.length ≤ 9223372036854775807) (hb : Bok bs) : Ev (fun k => spec_ShareOrder.f k ts bs) (orderB ts bs) := by
 unfold spec_ShareOrder.f orderB
 simp only [Option.bind_some]
 refine Ev.bind (spec_ShareBookOk_ev ts bs ht hl hb) (Ev.test _ (fun h => ?_) (fun h => Ev.ret (by simp [h])))
 have h5 := book_five h
 rw [if_pos h]
 have go : ∀ (d : Nat) (x : List ByteArray), x.length + d = bs.length → Ev (fun k => spec_ShareOrder.l0 k x ts bs) (orderGo bs d x) := by
  intro d
  induction d with
  | zero =>
   intro x hx
   exact Ev.step (fun k => spec_ShareOrder.l0.eq_2 x ts bs k) (Ev.neg (by omega) (Ev.ret rfl))
  | succ d ih =>
   intro x hx
   refine Ev.step (fun k => spec_ShareOrder.l0.eq_2 x ts bs k) (Ev.pos (by omega) (Ev.bind (spec_l2Next_ev ts bs x hl hb (by omega)) ?_))
   unfold orderGo
   cases hn : nextB bs x with
   | none => exact Ev.pos (by simp) (Ev.ret rfl)
   | some i =>
    have hi := (findR_lt hn).2.1
    simp only [Option.map_some, Option.getD_some]
    refine Ev.neg (by omega) (Ev.pos (by omega) (Ev.pos (by omega) (Ev.pos (by omega) ?_)))
    rw [rdB_cast]
    exact ih _ (by simp; omega)
 exact go bs.length [] (by simp)
theorem impl_ShareOrder_ev (ts : List ByteArray) (bs : List IB) (ht : ts.length ≤ 9223372036854775807) (hl : bs.length ≤ 9223372036854775807) (hb : Bok bs) : Ev (fun k => impl_ShareOrder.f k ts bs) (orderB ts bs) := by
 unfold impl_ShareOrder.f orderB
 refine Ev.bind (impl_ShareBookOk_ev ts bs ht hl hb) (Ev.test _ (fun h => ?_) (fun h => Ev.ret (by simp [h])))
 have h5 := book_five h
 rw [if_pos h]
 have go : ∀ (d : Nat) (x : List ByteArray), x.length + d = bs.length → Ev (fun k => impl_ShareOrder.l0 k x ts bs) (orderGo bs d x) := by
   intro d
   induction d with
   | zero =>
     intro x hx
     exact Ev.step (fun k => impl_ShareOrder.l0.eq_2 x ts bs k) (Ev.neg (by omega) (Ev.ret rfl))
   | succ d ih =>
     intro x hx
     refine Ev.step (fun k => impl_ShareOrder.l0.eq_2 x ts bs k) (Ev.pos (by omega) ?_)
     unfold orderGo nextB
     refine Ev.loop (f := fun k i => impl_ShareOrder.l1 k x (x.length : Int) bs (bs.length : Int) (i : Int) ts bs)
       (val := fun i => match findR (nextP bs x) bs.length i with | none => ([], false) | some i => orderGo bs d (x ++ [(gB bs i).f0])) bs.length ?_ ?_ 0 (by omega)
     · simp only [findR_end]
       exact Ev.step (fun k => impl_ShareOrder.l1.eq_2 x _ bs _ _ ts bs k) (Ev.neg (by omega) (Ev.pos rfl (Ev.ret rfl)))
     · intro i hi H
       simp only [findR_step (nextP bs x) hi]
       refine Ev.step (fun k => impl_ShareOrder.l1.eq_2 x _ bs _ _ ts bs k) (Ev.pos (by omega) (Ev.pos (by omega) (Ev.pos (by omega) (Ev.bind (contains_ev x _ (by omega)) ?_))))
       rw [rdB_cast, wrap_up hi hl]
       refine Ev.test _ (fun h1 => Ev.sub H (by simp [nextP, h1])) (fun h1 => Ev.bind (impl_can_ev ts bs i x hl hi (by omega)) ?_)
       refine Ev.test _ (fun h2 => Ev.pos (by omega) ?_) (fun h2 => Ev.sub H (by simp [nextP, h2]))
       simp only [Option.bind_some]
       refine Ev.neg (by simp; omega) (Ev.sub (ih _ (by simp; omega)) (by simp [nextP, h1, h2]))
 exact go bs.length [] (by simp)
def safeB (ts : List ByteArray) (bs : List IB) : Bool := (orderB ts bs).2
theorem spec_ShareSafe_ev (ts : List ByteArray) (bs : List IB) (ht : ts.length ≤ 9223372036854775807) (hl : bs.length ≤ 9223372036854775807) (hb : Bok bs) : Ev (fun k => spec_ShareSafe.f k ts bs) (safeB ts bs) :=
  Ev.bind (spec_ShareOrder_ev ts bs ht hl hb) (Ev.ret rfl)
theorem impl_ShareSafe_ev (ts : List ByteArray) (bs : List IB) (ht : ts.length ≤ 9223372036854775807) (hl : bs.length ≤ 9223372036854775807) (hb : Bok bs) : Ev (fun k => impl_ShareSafe.f k ts bs) (safeB ts bs) :=
  Ev.bind (impl_ShareOrder_ev ts bs ht hl hb) (Ev.ret rfl)
def idxI (p : ByteArray → Bool) (l : List IB) (i : Nat) : Int := ((findR (fun i => p (gB l i).f0) l.length i).map fun (i : Nat) => (i : Int)).getD (-1)
theorem idxI_end (p : ByteArray → Bool) (l : List IB) : idxI p l l.length = -1 := by unfold idxI; rw [findR_end]; rfl
theorem idxI_step (p : ByteArray → Bool) {l : List IB} {i : Nat} (h : i < l.length) : idxI p l i = if p (gB l i).f0 = true then (i : Int) else idxI p l (i + 1) := by
 unfold idxI; rw [findR_step _ h]; cases p (gB l i).f0 <;> rfl
def PredB (g : Nat) (lb : Array Value) (p : ByteArray → Bool) (w : World) : Prop :=
 ∀ (W : World) (s : ByteArray) (A1 : Option Addr) (n1 c1 : Nat) (A2 : Option Addr) (n2 c2 : Nat), Below w.heap.size w W → Calls Try.prog g (#[.agg #[.string s, .slice A1 n1 c1, .slice A2 n2 c2]] ++ lb) W fun e w' => e = .returned (.bool (p s)) ∧ Below w.heap.size w w'
set_option maxHeartbeats 2000000 in
theorem indexFuncB_any (g : Nat) (lb : Array Value) (eg : ∀ args w, (callFunc g args).run Try.prog w = .ok (.enter g args) w) (p : ByteArray → Bool) (A0 : Option Addr) (c0 : Nat) (l0 : List IB) (w : World)
  (gL : Kd.C k56 w A0 l0.length l0) (hp : PredB g lb p w) :
  Calls Try.prog 117 #[.slice A0 l0.length c0, .func (.func g) #[] lb] w fun e w' => e = .returned (.int .i64 (idxI p l0 0)) ∧ Below w.heap.size w w' := by
 have hbig := C_len gL
 have hL := am gL
 clear gL
 have HP := am hp
 clear hp
 have hu := Try.underlying56
 go_enter Try.func117, Try.ntmps117
 go_wp2
 go_loopg [5, 8] l0.length (fun gg _ s8 wr => ∃ kk : Nat, kk ≤ l0.length ∧ l0.length - kk ≤ gg ∧ s8 = .int .i64 kk ∧ Aside0 (Below w.heap.size w wr) ∧ Aside0 (idxI p l0 0 = idxI p l0 kk))
 case atStart => exact ⟨0, Nat.zero_le _, by omega, rfl, ⟨Below.refl _ w⟩, ⟨rfl⟩⟩
 obtain ⟨kk, hkk, hg, rfl, BW, A⟩ := hrel
 by_cases hlt : kk < l0.length
 ·have hltz : (kk : Int) < (l0.length : Int) := by omega
  have e1 := A.out
  rw [idxI_step p hlt] at e1
  have E1 := am e1
  clear e1
  obtain ⟨ad, A1, c1, A2, c2, rfl, Co, Cp, UL, _, _, _, _⟩ := at_T56 hL.1 (kk : Int) (by omega) (by omega)
  have hcall := HP.out wr (gB l0 kk).f0 A1 (rd_T56 l0 (kk : Int)).f1.length c1 A2 (rd_T56 l0 (kk : Int)).f2.length c2 BW.out
  rw [← rdB_cast] at hcall E1
  rw [Int.toNat_natCast] at Co Cp UL
  replace Co := (BW.out.cell (World.block_lt_of_cell? w _ Co)).trans Co
  replace Cp := (BW.out.cell (World.block_lt_of_cell? w _ Cp)).trans Cp
  replace UL := (BW.out.cell (World.block_lt_of_cell? w _ UL)).trans UL
  generalize rd_T56 l0 (kk : Int) = y at Co Cp UL hcall E1
  obtain ⟨y0, y1, y2⟩ := y
  cases hq : p y0 with
  | true =>
   rw [hq] at hcall
   have E2 : Aside0 (idxI p l0 0 = kk) := ⟨by rw [E1.out, if_pos hq]⟩
   clear hq
   go_wp2_with ((go_at_fn g; refine hcall.mono ?_; rintro e w' ⟨rfl, hb'⟩))
   go_ret
   exact ⟨by rw [E2.out]; rfl, hb'⟩
  | false =>
   rw [hq] at hcall
   have E2 : Aside0 (idxI p l0 0 = idxI p l0 (kk + 1)) := ⟨by rw [E1.out, if_neg (by simp [hq])]⟩
   clear hq
   go_wp2_with ((go_at_fn g; refine hcall.mono ?_; rintro e w' ⟨rfl, hb'⟩))
   go_roundg (l0.length - (kk + 1))
   case measure => omega
   case rel => exact ⟨kk + 1, by omega, by omega, by go_num, ⟨hb'⟩, E2⟩
 have hltz : ¬ (kk : Int) < (l0.length : Int) := by omega
 have hk2 : kk = l0.length := by omega
 have E2 : Aside0 (idxI p l0 0 = -1) := ⟨by rw [A.out, hk2, idxI_end]⟩
 subst hk2
 go_wp2
 go_ret
 exact ⟨by rw [E2.out]; rfl, BW.out⟩
theorem at1_any (s n : ByteArray) (A1 : Option Addr) (n1 c1 : Nat) (A2 : Option Addr) (n2 c2 : Nat) (gb : Nat) (W : World) (hg : gb < W.heap.size) (hcell : W.cell? ⟨gb, 0, none⟩ = some (.string n)) :
  Calls Try.prog 118 #[.agg #[.string s, .slice A1 n1 c1, .slice A2 n2 c2], .pointer (some ⟨gb, 0, none⟩)] W fun e w' => e = .returned (.bool (s.toList == n.toList)) ∧ Below W.heap.size W w' := by
 have hu := Try.underlying56
 have hne : gb ≠ W.heap.size := by omega
 go_enter Try.func118, Try.ntmps118
 go_wp2
 go_ret
 exact ⟨rfl, (Below.refl _ _).alloc (Nat.le_refl _) _⟩
def impl_ShareBook_at.f (a7 : List ByteArray) (a4 : List IB) (a1 : ByteArray) : Option (Int) := some (idxI (fun s => s.toList == a1.toList) a4 0)
theorem impl_ShareBook_at.calls (bG : Option Addr) (bH : Nat) (a7 : List ByteArray) (bL : Option Addr) (bD : Nat) (a4 : List IB) (a1 : ByteArray) (r : Int) (w : World) (cZ : Kd.C Kd.string w bG a7.length a7) (cX : a7.length ≤ bH) (cU : Kd.C k56 w bL a4.length a4) (cY : a4.length ≤ bD) (h : impl_ShareBook_at.f a7 a4 a1 = some r) :
  Calls Try.prog 84 #[.agg #[.slice bG a7.length bH, .slice bL a4.length bD], .string a1] w fun e w' => e = .returned (.int .i64 r) ∧ Below w.heap.size w w' := by
 obtain rfl := Option.some.inj h
 clear h
 have hu := Try.underlying31
 have HW : Aside0 (Below w.heap.size w ((w.alloc (.cells #[.slice bG a7.length bH, .slice bL a4.length bD] 31 (0, 0))).alloc (.cells #[.string a1] 9 (0, 0)))) := ⟨((Below.refl _ _).alloc (Nat.le_refl _) _).alloc (by simp) _⟩
 have HC : Aside0 (Calls Try.prog 117 #[.slice bL a4.length bD, .func (.func 118) #[] #[.pointer (some ⟨w.heap.size + 1, 0, none⟩)]] ((w.alloc (.cells #[.slice bG a7.length bH, .slice bL a4.length bD] 31 (0, 0))).alloc (.cells #[.string a1] 9 (0, 0))) fun e w' => e = .returned (.int .i64 (idxI (fun s => s.toList == a1.toList) a4 0)) ∧ Below ((w.alloc (.cells #[.slice bG a7.length bH, .slice bL a4.length bD] 31 (0, 0))).alloc (.cells #[.string a1] 9 (0, 0))).heap.size ((w.alloc (.cells #[.slice bG a7.length bH, .slice bL a4.length bD] 31 (0, 0))).alloc (.cells #[.string a1] 9 (0, 0))) w') := by
  refine ⟨indexFuncB_any 118 _ (enters_of Try.func118 (by kernel_rfl) rfl) (fun s => s.toList == a1.toList) bL bD a4 _ (Kd.C_below cU HW.out) ?_⟩
  intro W s A1 n1 c1 A2 n2 c2 hb
  have hcell : W.cell? ⟨w.heap.size + 1, 0, none⟩ = some (.string a1) := by
   rw [hb.cell (p := ⟨w.heap.size + 1, 0, none⟩) (by simp)]
   simp
  exact (at1_any s a1 A1 n1 c1 A2 n2 c2 (w.heap.size + 1) W (Nat.lt_of_lt_of_le (by simp) hb.size) hcell).mono fun e w' ⟨he, hd⟩ => ⟨he, below_then hb hb.size hd⟩
 generalize idxI (fun s => s.toList == a1.toList) a4 0 = b at HC
 clear cZ cX cU cY
 go_enter Try.func84, Try.ntmps84
 go_wp2_with ((go_at_call 117; refine HC.out.mono ?_; rintro e w' ⟨rfl, hb'⟩))
 go_ret
 exact ⟨rfl, below_then HW.out HW.out.size hb'⟩
mutual
def impl_ShareWaits.j0 : Nat → Int → Bool → List ByteArray → List (S56) → Option (List ByteArray)
 | 0, _, _, _, _ => none
 | k + 1, b, c, d, a => if c = true then (some ([] : List ByteArray)) else (impl_ShareWaits.l0 k b (([] : List ByteArray)) a (a.length : Int) 0 d a)
def impl_ShareWaits.l0 : Nat → Int → List ByteArray → List (S56) → Int → Int → List ByteArray → List (S56) → Option (List ByteArray)
 | 0, _, _, _, _, _, _, _ => none
 | k + 1, b, d, c, g, a, h, e => if a < g then (if 0 ≤ a then (if a < (c.length : Int) then (if a = b then (impl_ShareWaits.l0 k b d c g (wrap64 (a + 1)) h e) else (if 0 ≤ b then (if b < (e.length : Int) then ((impl_common.f ((rd_T56 c a).f1) ((rd_T56 e b).f2)).bind fun i => (if i = true then (if d.length < 8796093022208 then (impl_ShareWaits.l0 k b (d ++ [(rd_T56 c a).f0]) c g (wrap64 (a + 1)) h e) else (none)) else (impl_ShareWaits.l0 k b d c g (wrap64 (a + 1)) h e))) else (none)) else (none))) else (none)) else (none)) else (some d)
end
def impl_ShareWaits.f (k : Nat) (a7 : List ByteArray) (a4 : List (S56)) (a1 : ByteArray) : Option (List ByteArray) := (impl_ShareBook_at.f a7 a4 a1).bind fun a => ((impl_ShareBookOk.f k a7 a4).bind fun b => (if b = true then (impl_ShareWaits.j0 k a (decide (a < 0)) a7 a4) else (impl_ShareWaits.j0 k a true a7 a4)))
def impl_ShareWaits.T8 : Bool × List (List Nat × List Nat) := (true, [([], []), ([], []), ([0, 1], [0, 1]), ([2], [2]), ([3], [3]), ([4, 3], [3, 4]), ([3], [3]), ([6, 3], [3, 6]), ([3], [3]), ([7, 8, 3], [3, 7, 8]), ([9, 3], [3, 9]), ([10, 3], [3, 10]), ([5, 11, 3, 3], [3, 5, 11]), ([3, 12], [3, 12])])
def impl_ShareWaits.B8 : List Nat := [0, 0, 3, 7, 15, 31, 15, 79, 15, 463, 975, 1999, 4095, 8191]
theorem impl_ShareWaits.tab8 : rtab .any (opsOf Try.f38 8) = impl_ShareWaits.T8 := by kernel_rfl
theorem impl_ShareWaits.bits8 : waitsOk impl_ShareWaits.T8.2 impl_ShareWaits.B8 = true := by kernel_rfl
theorem impl_ShareWaits.calls (k : Nat) (bG : Option Addr) (bH : Nat) (a7 : List ByteArray) (bL : Option Addr) (bD : Nat) (a4 : List (S56)) (a1 : ByteArray) (r : List ByteArray) (w : World) (cZ : Kd.C Kd.string w bG a7.length a7) (cX : a7.length ≤ bH) (cU : Kd.C k56 w bL a4.length a4) (cY : a4.length ≤ bD) (h : impl_ShareWaits.f k a7 a4 a1 = some r) :
  Calls Try.prog 38 #[.agg #[.slice bG a7.length bH, .slice bL a4.length bD], .string a1] w fun e w' => ∃ v0_ : Value, e = .returned (v0_) ∧ Kd.R Kd.string 9 w' w.heap.size (fun _ => True) v0_ r ∧ Below w.heap.size w w' := by
 have hu31 := Try.underlying31
 have hu56 := Try.underlying56
 obtain ⟨bC, bA⟩ := mZ2 cZ cX
 obtain ⟨aK, bM⟩ := mZ2 cU cY
 clear cZ cX cU cY
 have HB := am (Below.refl w.heap.size w)
 unfold impl_ShareWaits.f at h
 have H := h
 clear h
 obtain ⟨eB, A3, H⟩ := bd H
 have QS := am H
 clear H
 go_enter Try.func38, Try.ntmps38
 go_upto_region 2 with (first | ((with_reducible refine gD 2 ?_); refine bX 2 #[.slice bG a7.length bH, .slice bL a4.length bD] 31 ?_; intro a6 hg w5 hbox hb; have a3 := am hbox; have bR := am (hJ : w.heap.size ≤ a6); have cJ := bR; replace HB := bS cI hb; clear hb hbox hg; have Z6 := cz2 a3) | ((with_reducible refine gC 84 ?_); refine cQ (some 11) Try.func84 (impl_ShareBook_at.calls _ _ a7 _ _ a4 a1 eB _ (pB bC) bA.1 (pB aK) bM.1 A3.out) ?_; rintro w7 hb; replace a3 := bB aC hb; replace HB := bS aY hb; (try clear hb)))
 (try simp only [Act.put, List.setIfInBounds_toArray, List.set_cons_zero, List.set_cons_succ])
 go_cut [18] (fun pe wc => ∃ (kq : Nat) (KL : Bool), pe = .bool KL ∧ Aside0 (impl_ShareWaits.j0 kq eB KL a7 a4 = some r) ∧ Aside0 (kq ≤ k) ∧ Aside0 (wc.heap[a6]? = some (.cells #[(.slice bG a7.length bH), (.slice bL a4.length bD)] 31 (0, 0))) ∧ Aside0 (Below w.heap.size w wc))
 case first =>
  have H := QS.1
  clear QS
  obtain ⟨bE, A8, H⟩ := bd H
  refine tC H ?_ ?_ <;> clear H <;> intro c9 H <;> subst c9
  ·have H' := am H
   repeat clear H
   have Y8 := cz2 a3
   go_wp2_with (first | ((with_reducible refine gC 24 ?_); refine cQ (some 13) Try.func24 (impl_ShareBookOk.calls k _ _ a7 _ _ a4 true _ (pB bC) bA.1 (pB aK) bM.1 A8.out) ?_; rintro Sf hb; replace a3 := bB aC hb; replace HB := bS aY hb; (try clear hb)))
   go_meet
   exact ⟨_, (decide (eB < 0)), aQ, H', ⟨by first | omega | exact Nat.le_refl _⟩, ⟨rB a3.1⟩, ⟨aY⟩⟩
  have H' := am H
  repeat clear H
  have R7 := cz2 a3
  go_wp2_with (first | ((with_reducible refine gC 24 ?_); refine cQ (some 13) Try.func24 (impl_ShareBookOk.calls k _ _ a7 _ _ a4 false _ (pB bC) bA.1 (pB aK) bM.1 A8.out) ?_; rintro KD hb; replace a3 := bB aC hb; replace HB := bS aY hb; (try clear hb)))
  go_meet
  exact ⟨_, (true), aQ, H', ⟨by first | omega | exact Nat.le_refl _⟩, ⟨rB a3.1⟩, ⟨aY⟩⟩
 clear QS
 try clear Z6
 obtain ⟨kq, KL, rfl, HA, HJ3, a3, HB⟩ := hcut
 cases kq with
 | zero => exact absurd HA.out (by simp [impl_ShareWaits.j0])
 | succ kj3 =>
  have H := HA.out
  clear HA
  simp only [impl_ShareWaits.j0] at H
  refine tC H ?_ ?_ <;> clear H <;> intro G7 H <;> subst G7
  ·obtain rfl := Option.some.inj H
   repeat clear H
   go_wp2
   go_ret
   exact ⟨_, eR, by first | exact Kd.R_nil _ _ _ _ _ | exact Kd.N_nil _ _ _ _ _ | exact Kd.V_nil _ _ _ _ _ | exact Kd.Q_nil _ _ _ _ _ | exact Kd.S_nil _ _ _ _ _, aY⟩
  ·obtain ⟨VC, hy104⟩ : ∃ y_ : List ByteArray, y_ = (([] : List ByteArray)) := ⟨_, rfl⟩
   replace H : (impl_ShareWaits.l0 kj3 eB VC a4 (a4.length : Int) 0 a7 a4) = some r := by first | (rw [hy104]; with_reducible exact H) | (have H2_ := (Option.bind_some _ _).symm.trans H; rw [hy104]; with_reducible exact H2_) | (have H2_ := (Option.bind_some _ _).symm.trans H; with_reducible exact H2_) | with_reducible exact H | (rw [hy104]; exact H) | exact H
   have D4 := am hy104
   clear hy104
   have H' := am H
   repeat clear H
   go_wp2_with (first | ((with_reducible refine gate_dst (N := 19) rfl ?_); refine lS 9 19 D4 ?_; intro sG Dm H9 hb; have aX := am (Kd.R_lower H9 (below_size aY)); replace a3 := bB aC hb; replace HB := bS aY hb; clear hb H9; have Er := cz2 a3))
   go_loopg [6, 23] kj3 (fun kq v6 Sa w' => ∃ (jS : List ByteArray) (dA : Int), Sa = .int .i64 dA ∧ Aside0 (impl_ShareWaits.l0 kq eB jS a4 (a4.length : Int) dA a7 a4 = some r) ∧ Aside0 (kq ≤ kj3) ∧ Aside0 (Kd.R Kd.string 9 w' w.heap.size (fun _ => True) v6 jS) ∧ Aside0 (w'.heap[a6]? = some (.cells #[(.slice bG a7.length bH), (.slice bL a4.length bD)] 31 (0, 0))) ∧ Aside0 (Below w.heap.size w w'))
   case atStart => exact ⟨(VC), (0), aQ, H', ⟨Nat.le_refl _⟩, ⟨rR aX.1⟩, ⟨rB a3.1⟩, ⟨aY⟩⟩
   case round =>
    clear H'
    try clear G7
    try clear Er
    try clear Z6
    obtain ⟨jS, dA, rfl, HA, HK2, dE, a3, HB⟩ := hrel
    cases gk with
    | zero => exact absurd HA.out (by simp [impl_ShareWaits.l0])
    | succ k2 =>
     have H := HA.out
     clear HA
     simp only [impl_ShareWaits.l0] at H
     refine ic H ?_ ?_ <;> clear H <;> intro mF H
     obtain ⟨OO, H⟩ := cN H
     obtain ⟨tF, H⟩ := cN H
     refine iq H ?_ ?_ <;> clear H <;> intro rp OQ Xt H
     have H' := am H
     repeat clear H
     obtain ⟨k9, n0, n7, n3, n8, r9, jV, gA, gF, f4, gN, jT, o2, DS, DW⟩ := aT56 aK HB dA
     cases r9
     have FW := trivial
     rotate_left
     obtain ⟨zR, H⟩ := cN H
     obtain ⟨OT, H⟩ := cN H
     obtain ⟨jQ, VI, H⟩ := bd H
     refine tC H ?_ ?_ <;> clear H <;> intro OV H <;> subst OV
     obtain ⟨D3, H⟩ := cL H
     obtain ⟨FE, lU⟩ := yv (jS ++ [(rd_T56 a4 dA).f0]); first | replace H := bW lU H | rw [← lU.1] at H
     have H' := am H
     repeat clear H
     obtain ⟨k9, n0, n7, n3, n8, r9, jV, gA, gF, f4, gN, jT, o2, DS, DW⟩ := aT56 aK HB dA
     cases r9
     have FW := trivial
     rotate_left
     have H' := am H
     repeat clear H
     obtain ⟨k9, n0, n7, n3, n8, r9, jV, gA, gF, f4, gN, jT, o2, DS, DW⟩ := aT56 aK HB dA
     cases r9
     have FW := trivial
     rotate_left
     obtain rfl := Option.some.inj H
     repeat clear H
     rotate_left
     all_goals
      try go_wp2_with (first | ((with_reducible refine gD 8 ?_); revert FW; intro FW; refine bX 8 #[.string (⟨#[]⟩ : ByteArray), .slice none 0 0, .slice none 0 0] 56 ?_; intro g8 hg KG hbox hb; replace dE := RB hD hb; have bF := am hbox; have n6 := am (p3 : w.heap.size ≤ g8); have zA := n6; replace HB := bS aY hb; have bZ := nL aC hg; have eL := nG aC hg; replace a3 := bB aC hb; clear hb hbox hg; have Ux := nZ1 eL bZ; have Uy := cz3 bF))
     ·obtain ⟨WG, eW_⟩ := eW3 KG g8 (.string ((rd_T56 a4 dA).f0)) (.slice n0 ((rd_T56 a4 dA).f1).length n7) (.slice n3 ((rd_T56 a4 dA).f2).length n8)
      rw [← eW_]
      replace dE : Aside0 (Kd.R Kd.string 9 WG w.heap.size (fun _ => True) u6 jS) := by rw [eW_]; exact ⟨mR dE bF⟩
      replace a3 := uF3 eW_ a3 bZ
      replace bF := uP3 eW_ bF
      replace HB := uC3 eW_ HB zA
      clear eW_
      replace dE := RD dE
      replace a3 := BD a3
      replace bF := BD bF
      replace HB := am (below_drew1 HB.1)
      refine sT (S := fun w' => True) [] 14 ⟨trivial⟩ (fun hHeld => ?_)
      refine with_tabW impl_ShareWaits.tab8 impl_ShareWaits.bits8 (fun HT_ HW_ => ?_)
      generalize WG.drew = Dn at dE a3 bF HB hHeld ⊢
      refine pU4 0 1 2 3 ?_
      refine pV8 4 5 6 7 8 9 10 11 ?_
      refine pV1 12 ?_
      refine pU1 13 ?_
      refine dN ?_
      try go_wp2
      go_roundg k2
      case measure => have := HJ3.out; have := HK2.out; omega
      case rel => exact ⟨(jS), (wrap64 (dA + 1)), aQ, H', ⟨by have := HJ3.out; have := HK2.out; omega⟩, ⟨rR dE.1⟩, ⟨rB a3.1⟩, ⟨F5⟩⟩
     ·obtain ⟨N9, eW_⟩ := eW3 KG g8 (.string ((rd_T56 a4 dA).f0)) (.slice n0 ((rd_T56 a4 dA).f1).length n7) (.slice n3 ((rd_T56 a4 dA).f2).length n8)
      rw [← eW_]
      replace dE : Aside0 (Kd.R Kd.string 9 N9 w.heap.size (fun _ => True) u6 jS) := by rw [eW_]; exact ⟨mR dE bF⟩
      replace a3 := uF3 eW_ a3 bZ
      replace bF := uP3 eW_ bF
      replace HB := uC3 eW_ HB zA
      clear eW_
      replace dE := RD dE
      replace a3 := BD a3
      replace bF := BD bF
      replace HB := am (below_drew1 HB.1)
      obtain ⟨IW, PQ, R8, PR, R9, SG, uB, uC, uD, C1, C2, C3, AR, L6, t7, AM, Qp, Rb⟩ := aTw56 aK HB eB
      obtain rfl : k9 = IW := (by injection SG)
      refine sT [] 14 (uB3 bF (uB2 a3 (uBx HB uB (uBx HB uC (uAx HB uD))))) (fun hHeld => ?_)
      refine with_tabW impl_ShareWaits.tab8 impl_ShareWaits.bits8 (fun HT_ HW_ => ?_)
      generalize N9.drew = NA at dE a3 bF HB AR t7 C1 C2 C3 hHeld ⊢
      refine pU7 0 1 2 3 4 6 8 ?_
      refine tK8 5 (some 33) ?_
      refine tK8 7 (some 35) ?_
      refine pU2 9 10 ?_
      refine tK8 11 (some 39) ?_
      refine oN 12 (some 40) fun K hK => ?_
      refine gQ Try.func78 (impl_common.calls _ _ ((rd_T56 a4 dA).f1) _ _ ((rd_T56 a4 eB).f2) true _ (pB f4) gN.1 (pB t7) AM.1 VI.out) ?_
      rintro NB hb
      replace dE := RB hD hb
      replace a3 := bB aC hb
      replace bF := bB nH hb
      replace HB := bS F5 hb
      (try clear hb)
      (try clear hb2)
      (try clear hk)
      (try clear hi)
      refine nK hK (uB3 bF (uB2 a3 (uBx HB uB (uBx HB uC (uAx HB uD))))).1 fun hHeld => ?_
      clear hK K
      refine pU1 13 ?_
      refine dN ?_
      have lc := cz3 bF
      try go_wp2_with (first | ((with_reducible refine gate_builtin (b := .append) (xs := #[.tmp 42, .tmp 45]) rfl ?_); at_builtin; refine Kd.R_append Kd.string (w0 := w) w.heap.size rfl (.tmp 42) (.tmp 45) 23 9 (.string ⟨#[]⟩) 16 rfl Try.underlying23 info9 rfl (by decide) (by omega) u6 jS ((rd_T56 a4 dA).f0) [.string ((rd_T56 a4 dA).f0)] (fun _ => True) (fun _ => False) rfl rfl ?aP (fun _ hk => hk.elim) ?aF ?aO ?aB ?aS ?aL ?_; (case aP => exact rfl); (case aB => exact F5); (case aF => exact (fun _ _ => trivial)); (case aO => exact hD); (case aS => exact (below_size F5)); (case aL => have := D3.out; omega); intro yL Dp ho hb hg hat; rw [← lU.out] at ho; replace a3 := gkR aC hg dE a3; replace bF := gkR nH hg dE bF; replace HB := am hb; have eP := am ho; clear dE; clear ho hb hg hat))
      go_roundg k2
      case measure => have := HJ3.out; have := HK2.out; omega
      case rel => exact ⟨(FE), (wrap64 (dA + 1)), aQ, H', ⟨by have := HJ3.out; have := HK2.out; omega⟩, ⟨rR eP.1⟩, ⟨rB a3.1⟩, ⟨F5⟩⟩
     ·obtain ⟨Dq, eW_⟩ := eW3 KG g8 (.string ((rd_T56 a4 dA).f0)) (.slice n0 ((rd_T56 a4 dA).f1).length n7) (.slice n3 ((rd_T56 a4 dA).f2).length n8)
      rw [← eW_]
      replace dE : Aside0 (Kd.R Kd.string 9 Dq w.heap.size (fun _ => True) u6 jS) := by rw [eW_]; exact ⟨mR dE bF⟩
      replace a3 := uF3 eW_ a3 bZ
      replace bF := uP3 eW_ bF
      replace HB := uC3 eW_ HB zA
      clear eW_
      replace dE := RD dE
      replace a3 := BD a3
      replace bF := BD bF
      replace HB := am (below_drew1 HB.1)
      obtain ⟨IW, PQ, R8, PR, R9, SG, uB, uC, uD, C1, C2, C3, AR, L6, t7, AM, Qp, Rb⟩ := aTw56 aK HB eB
      obtain rfl : k9 = IW := (by injection SG)
      refine sT [] 14 (uB3 bF (uB2 a3 (uBx HB uB (uBx HB uC (uAx HB uD))))) (fun hHeld => ?_)
      refine with_tabW impl_ShareWaits.tab8 impl_ShareWaits.bits8 (fun HT_ HW_ => ?_)
      generalize Dq.drew = WI at dE a3 bF HB AR t7 C1 C2 C3 hHeld ⊢
      refine pU7 0 1 2 3 4 6 8 ?_
      refine tK8 5 (some 33) ?_
      refine tK8 7 (some 35) ?_
      refine pU2 9 10 ?_
      refine tK8 11 (some 39) ?_
      refine oN 12 (some 40) fun K hK => ?_
      refine gQ Try.func78 (impl_common.calls _ _ ((rd_T56 a4 dA).f1) _ _ ((rd_T56 a4 eB).f2) false _ (pB f4) gN.1 (pB t7) AM.1 VI.out) ?_
      rintro ek hb
      replace dE := RB hD hb
      replace a3 := bB aC hb
      replace bF := bB nH hb
      replace HB := bS F5 hb
      (try clear hb)
      (try clear hb2)
      (try clear hk)
      (try clear hi)
      refine nK hK (uB3 bF (uB2 a3 (uBx HB uB (uBx HB uC (uAx HB uD))))).1 fun hHeld => ?_
      clear hK K
      refine pU1 13 ?_
      refine dN ?_
      try go_wp2
      go_roundg k2
      case measure => have := HJ3.out; have := HK2.out; omega
      case rel => exact ⟨(jS), (wrap64 (dA + 1)), aQ, H', ⟨by have := HJ3.out; have := HK2.out; omega⟩, ⟨rR dE.1⟩, ⟨rB a3.1⟩, ⟨F5⟩⟩
     ·go_ret
      exact ⟨_, eR, rR dE.1, aY⟩
end Go.Proofs.Ytaofjgnhapnndaa.Q
namespace Go.Proofs.Ytaofjgnhapnndaa.Q
open Go.RowKit Go.Proofs.YtaofjgnhapnndaaW.PrintWords Go.Proofs.YtaofjgnhapnndaaW.PrintLast Go.Proofs.YtaofjgnhapnndaaW.PrintMore
set_option linter.unusedVariables false
set_option linter.unusedSimpArgs false
def laws_wHas.l0 : Nat → List ByteArray → ByteArray → Int → Option (Bool)
 | 0, _, _, _ => none
 | k + 1, b, c, a => if a < (b.length : Int) then (if 0 ≤ a then (if (rdOf ByteArray.empty b a).toList = c.toList then (some true) else (laws_wHas.l0 k b c (wrap64 (a + 1)))) else (none)) else (some false)
def laws_wHas.f (k : Nat) (l0 : List ByteArray) (a1 : ByteArray) : Option (Bool) := laws_wHas.l0 k l0 a1 0
theorem laws_wHas.calls (k : Nat) (A0 : Option Addr) (c0 : Nat) (l0 : List ByteArray) (a1 : ByteArray) (r : Bool) (w : World) (gL : Kd.C Kd.string w A0 l0.length l0) (l7 : l0.length ≤ c0) (h : laws_wHas.f k l0 a1 = some r) :
  Calls Try.prog 52 #[.slice A0 l0.length c0, .string a1] w fun e w' => e = .returned (.bool r) ∧ Drawn0 w w' := by
 obtain ⟨hL, wE⟩ := mZ2 gL l7
 clear gL l7
 unfold laws_wHas.f at h
 have H := h
 clear h
 have H' := am H
 repeat clear H
 go_enter Try.func52, Try.ntmps52
 go_wp2
 go_loopg [5] k (fun kq v5 w' => ∃ (aW : Int), v5 = .int .i64 aW ∧ Aside0 (laws_wHas.l0 kq l0 a1 aW = some r) ∧ Aside0 (kq ≤ k) ∧ Drawn0 w w')
 case atStart => exact ⟨(0), aQ, H', ⟨Nat.le_refl _⟩, cG⟩
 clear H'
 obtain ⟨aW, rfl, HA, HK1, ⟨m1, rfl⟩⟩ := hrel
 cases gk with
 | zero => exact absurd HA.out (by simp [laws_wHas.l0])
 | succ k1 =>
  have H := HA.out
  clear HA
  simp only [laws_wHas.l0] at H
  refine ic H ?_ ?_ <;> clear H <;> intro pG H
  ·obtain ⟨jE, H⟩ := cN H
   refine iq H ?_ ?_ <;> clear H <;> intro c5 pH Nl H
   ·obtain rfl := Option.some.inj H
    repeat clear H
    obtain ⟨dS, eY, e0, kZ, l5⟩ := aS hL b0 aW
    cases eY
    go_wp2
    go_ret
    exact ⟨by first | rfl | (simp; done) | (simp [*]; done), cG⟩
   ·have H' := am H
    repeat clear H
    obtain ⟨dS, eY, e0, kZ, l5⟩ := aS hL b0 aW
    cases eY
    go_wp2
    go_roundg k1
    case measure => have := HK1.out; omega
    case rel => exact ⟨(wrap64 (aW + 1)), aQ, H', ⟨by have := HK1.out; omega⟩, cG⟩
  ·obtain rfl := Option.some.inj H
   repeat clear H
   go_wp2
   go_ret
   exact ⟨by first | rfl | (simp; done) | (simp [*]; done), cG⟩
def laws_wTexts.l0 : Nat → List ByteArray → List ByteArray → Int → Option (Bool)
 | 0, _, _, _ => none
 | k + 1, b, c, a => if a < (b.length : Int) then (if 0 ≤ a then (if a < (c.length : Int) then (if (rdOf ByteArray.empty b a).toList = (rdOf ByteArray.empty c a).toList then (laws_wTexts.l0 k b c (wrap64 (a + 1))) else (some false)) else (none)) else (none)) else (some true)
def laws_wTexts.f (k : Nat) (l0 : List ByteArray) (l1 : List ByteArray) : Option (Bool) := if (l0.length : Int) = (l1.length : Int) then (laws_wTexts.l0 k l0 l1 0) else (some false)
theorem laws_wTexts.calls (k : Nat) (A0 : Option Addr) (c0 : Nat) (l0 : List ByteArray) (A1 : Option Addr) (c1 : Nat) (l1 : List ByteArray) (r : Bool) (w : World) (gL : Kd.C Kd.string w A0 l0.length l0) (l7 : l0.length ≤ c0) (qQ : Kd.C Kd.string w A1 l1.length l1) (sW : l1.length ≤ c1) (h : laws_wTexts.f k l0 l1 = some r) :
  Calls Try.prog 54 #[.slice A0 l0.length c0, .slice A1 l1.length c1] w fun e w' => e = .returned (.bool r) ∧ Drawn0 w w' := by
 obtain ⟨hL, wE⟩ := mZ2 gL l7
 obtain ⟨qX, sS⟩ := mZ2 qQ sW
 clear gL l7 qQ sW
 unfold laws_wTexts.f at h
 have H := h
 clear h
 by_cases c3 : (l0.length : Int) = (l1.length : Int)
 ·rw [if_pos c3] at H
  have pG : ((l0.length : Int) == (l1.length : Int)) = true := beq_iff_eq.mpr c3
  have H4 : ((l0.length : Int) != (l1.length : Int)) = false := bne_eq_false_iff_eq.mpr c3
  have Z2 : (l0.length == l1.length) = true := by first | simpa using c3 | (simp at c3 ⊢; omega)
  clear c3
  have H' := am H
  repeat clear H
  go_enter Try.func54, Try.ntmps54
  go_wp2
  repeat (go_quiet (fail); try go_wp2)
  go_loopg [5] k (fun kq v5 w' => ∃ (aW : Int), v5 = .int .i64 aW ∧ Aside0 (laws_wTexts.l0 kq l0 l1 aW = some r) ∧ Aside0 (kq ≤ k) ∧ Drawn0 w w')
  case atStart => exact ⟨(0), aQ, H', ⟨Nat.le_refl _⟩, cG⟩
  clear H'
  try clear c1
  try clear c3
  try clear pG
  try clear H4
  try clear Z2
  obtain ⟨aW, rfl, HA, HK1, ⟨m1, rfl⟩⟩ := hrel
  cases gk with
  | zero => exact absurd HA.out (by simp [laws_wTexts.l0])
  | succ k1 =>
   have H := HA.out
   clear HA
   simp only [laws_wTexts.l0] at H
   refine ic H ?_ ?_ <;> clear H <;> intro jE H
   ·obtain ⟨pH, H⟩ := cN H
    obtain ⟨sC, H⟩ := cN H
    refine iq H ?_ ?_ <;> clear H <;> intro c7 AZ mf H
    ·have H' := am H
     repeat clear H
     obtain ⟨dS, eY, e0, kZ, l5⟩ := aS hL b0 aW
     cases eY
     obtain ⟨fA, iE, f7, oF, oH⟩ := aS qX b0 aW
     cases iE
     go_wp2
     repeat (go_quiet (fail); try go_wp2)
     go_roundg k1
     case measure => have := HK1.out; omega
     case rel => exact ⟨(wrap64 (aW + 1)), aQ, H', ⟨by have := HK1.out; omega⟩, cG⟩
    ·obtain rfl := Option.some.inj H
     repeat clear H
     obtain ⟨dS, eY, e0, kZ, l5⟩ := aS hL b0 aW
     cases eY
     obtain ⟨fA, iE, f7, oF, oH⟩ := aS qX b0 aW
     cases iE
     go_wp2
     repeat (go_quiet (fail); try go_wp2)
     go_ret
     exact ⟨by first | rfl | (simp; done) | (simp [*]; done), cG⟩
   ·obtain rfl := Option.some.inj H
    repeat clear H
    go_wp2
    repeat (go_quiet (fail); try go_wp2)
    go_ret
    exact ⟨by first | rfl | (simp; done) | (simp [*]; done), cG⟩
 rw [if_neg c3] at H
 have pG : ((l0.length : Int) == (l1.length : Int)) = false := beq_eq_false_iff_ne.mpr c3
 have H4 : ((l0.length : Int) != (l1.length : Int)) = true := bne_iff_ne.mpr c3
 have Z2 : (l0.length == l1.length) = false := by first | simpa using c3 | (simp at c3 ⊢; omega)
 obtain rfl := Option.some.inj H
 repeat clear H
 go_enter Try.func54, Try.ntmps54
 go_wp2
 repeat (go_quiet (fail); try go_wp2)
 go_ret
 exact ⟨by first | rfl | (simp; done) | (simp [*]; done), cG⟩
def IsS103 (w0 W : World) (g : Nat) (f0 : List Int) (f1 : Int) : Prop := ∃ A0 c0, W.heap[g]? = some (.cells #[.slice A0 f0.length c0, .int .i64 f1] 103 (0, 0)) ∧ w0.heap.size ≤ g ∧ Kd.C (Kd.int .u8) w0 A0 f0.length f0
theorem IsS103.grown {w0 W : World} {g : Nat} {f0 : List Int} {f1 : Int} {W1 : World} {row : Option Nat} (h : IsS103 w0 W g f0 f1) (hw : W.grownBy W1 row) (hne : some g ≠ row) : IsS103 w0 W1 g f0 f1 := by
 obtain ⟨A0, c0, hb, hg, gL⟩ := h
 exact ⟨A0, c0, blk_grown hb hw hne, hg, gL⟩
theorem IsS103.own_neN {w0 W : World} {g : Nat} {f0 : List Int} {f1 : Int} {α : Type} {d : Kd α} {e : Nat} {base : Nat} {ok : Nat → Prop} {v : Value} {xs : List α} (h : IsS103 w0 W g f0 f1) (ho : Kd.N d e W base ok v xs) (ht : e ≠ 103) : some g ≠ v.ownBlock := by
 obtain ⟨A0, c0, hb, hg, gL⟩ := h
 exact Kd.N_ne ho hb ht
theorem IsS103.fresh {w0 W : World} {g : Nat} {f0 : List Int} {f1 : Int} (h : IsS103 w0 W g f0 f1) : ∀ k, W.heap.size ≤ k → k ≠ g := by
 obtain ⟨A0, c0, hb, hg, gL⟩ := h
 exact Kd.freshB hb
theorem IsS103.kept {w0 W : World} {g : Nat} {f0 : List Int} {f1 : Int} {W1 : World} {S : Nat → Prop} (h : IsS103 w0 W g f0 f1) (hk : Kept W W1 S) (hne : ¬ S g) : IsS103 w0 W1 g f0 f1 := by
 obtain ⟨A0, c0, hb, hg, gL⟩ := h
 exact ⟨A0, c0, blk_kept hb hk hne, hg, gL⟩
theorem IsS103.below {w0 W : World} {g : Nat} {f0 : List Int} {f1 : Int} {W1 : World} (h : IsS103 w0 W g f0 f1) (hw : Below W.heap.size W W1) : IsS103 w0 W1 g f0 f1 := h.grown (grown_of_below hw none) (by simp)
theorem IsS103.alloc {w0 W : World} {g : Nat} {f0 : List Int} {f1 : Int} (h : IsS103 w0 W g f0 f1) (o : Obj) : IsS103 w0 (W.alloc o) g f0 f1 := h.below (below_alloc (Below.refl _ _) o)
theorem IsS103.drewN {w0 W : World} {g : Nat} {f0 : List Int} {f1 : Int} (h : IsS103 w0 W g f0 f1) (m : Nat) : IsS103 w0 (W.drewN m) g f0 f1 := h
theorem IsS103.drew {w0 W : World} {g : Nat} {f0 : List Int} {f1 : Int} (h : IsS103 w0 W g f0 f1) : IsS103 w0 W.drew g f0 f1 := h
theorem IsS103.at_ {w0 W : World} {g : Nat} {f0 : List Int} {f1 : Int} {w' : World} {m : Nat} (hq : W.drewN m = w') (h : IsS103 w0 W g f0 f1) : IsS103 w0 w' g f0 f1 := by subst hq; exact IsS103.drewN h m
theorem IsS103.apart {w0 W : World} {g : Nat} {f0 : List Int} {f1 : Int} {α : Type} {d : Kd α} {e : Nat} {base : Nat} {ok : Nat → Prop} {v : Value} {xs : List α} (h : IsS103 w0 W g f0 f1) (ho : d.R e W base ok v xs) (ht : ∀ q, q ∈ e :: d.E → q ≠ 103) : d.R e W base (fun k => ok k ∧ k ≠ g) v xs := by
 obtain ⟨A0, c0, hb, hg, gL⟩ := h
 exact Kd.R_types ho hb ht
theorem IsS103.own_ne {w0 W : World} {g : Nat} {f0 : List Int} {f1 : Int} {α : Type} {d : Kd α} {e : Nat} {base : Nat} {ok : Nat → Prop} {v : Value} {xs : List α} (h : IsS103 w0 W g f0 f1) (ho : d.R e W base ok v xs) (ht : e ≠ 103) : some g ≠ v.ownBlock := by
 obtain ⟨A0, c0, hb, hg, gL⟩ := h
 exact Kd.R_ne ho hb ht
theorem IsS103.apartS {w0 W : World} {g : Nat} {f0 : List Int} {f1 : Int} {α : Type} {d : Kd α} {e : Nat} {base : Nat} {ok : Nat → Prop} {v : Value} {xs : List α} (h : IsS103 w0 W g f0 f1) (ho : d.S e W base ok v xs) (ht : ∀ q, q ∈ e :: d.E → q ≠ 103) : d.S e W base (fun k => ok k ∧ k ≠ g) v xs := by
 obtain ⟨A0, c0, hb, hg, gL⟩ := h
 exact Kd.S_types ho hb ht
theorem iR {w0 W w1 : World} {g : Nat} {f0 : List Int} {f1 : Int} {α : Type} {d : Kd α} {e base : Nat} {ok : Nat → Prop} {v : Value} {xs : List α} (h : IsS103 w0 W g f0 f1) (ho : Kd.R d e W base ok v xs) (hk : KeepBut W w1 g none) (ht : ∀ q, q ∈ e :: d.E → q ≠ 103 := by decide) : Aside0 (Kd.R d e w1 base ok v xs) := ⟨Kd.R_mono (Kd.R_keep (IsS103.apart h ho ht) hk (fun _ h => h.2)) (fun _ h => h.1)⟩
theorem iS {w0 W w1 : World} {g : Nat} {f0 : List Int} {f1 : Int} {α : Type} {d : Kd α} {e base : Nat} {ok : Nat → Prop} {v : Value} {xs : List α} (h : IsS103 w0 W g f0 f1) (ho : Kd.S d e W base ok v xs) (hk : KeepBut W w1 g none) (ht : ∀ q, q ∈ e :: d.E → q ≠ 103 := by decide) : Aside0 (Kd.S d e w1 base ok v xs) := ⟨Kd.S_mono (Kd.S_keep (IsS103.apartS h ho ht) hk (fun _ h => h.2)) (fun _ h => h.1)⟩
theorem IsS103.own_neS {w0 W : World} {g : Nat} {f0 : List Int} {f1 : Int} {α : Type} {d : Kd α} {e : Nat} {base : Nat} {ok : Nat → Prop} {v : Value} {xs : List α} (h : IsS103 w0 W g f0 f1) (ho : d.S e W base ok v xs) (ht : e ≠ 103) : some g ≠ v.ownBlock := by
 obtain ⟨A0, c0, hb, hg, gL⟩ := h
 exact Kd.S_ne ho hb ht
theorem IsS103.lt {w0 W : World} {g : Nat} {f0 : List Int} {f1 : Int} (h : IsS103 w0 W g f0 f1) : g < W.heap.size := by
 obtain ⟨A0, c0, hb, hg, gL⟩ := h
 exact blk_lt hb
theorem IsS103.ge {w0 W : World} {g : Nat} {f0 : List Int} {f1 : Int} (h : IsS103 w0 W g f0 f1) : w0.heap.size ≤ g := by
 obtain ⟨A0, c0, hb, hg, gL⟩ := h
 exact hg
theorem IsS103.ne_blk {w0 W : World} {g : Nat} {f0 : List Int} {f1 : Int} {a : Nat} {cs : Array Value} {t : TypeId} {fr : Nat × Nat} (h : IsS103 w0 W g f0 f1) (hb2 : W.heap[a]? = some (.cells cs t fr)) (ht : t ≠ 103) : g ≠ a := by
 obtain ⟨A0, c0, hb, hg, gL⟩ := h
 rintro rfl
 rw [hb] at hb2
 injection hb2 with hb2
 injection hb2 with _ ht2
 exact ht ht2.symm
theorem IsS103.far {w0 W : World} {g : Nat} {f0 : List Int} {f1 : Int} {p : Addr} (h : IsS103 w0 W g f0 f1) (hne : g ≠ p.block) (u : Value) : IsS103 w0 (W.setCell p u) g f0 f1 := by
 obtain ⟨A0, c0, hb, hg, gL⟩ := h
 exact ⟨A0, c0, blk_far hb hne u, hg, gL⟩
theorem cellS103_0 {W : World} {g : Nat} {A0 : Option Addr} {c0 : Nat} {f0 : List Int} {f1 : Int} (h : W.heap[g]? = some (.cells #[.slice A0 f0.length c0, .int .i64 f1] 103 (0, 0))) : W.cell? ⟨g, 0, none⟩ = some (.slice A0 f0.length c0) := (blk_cell h 0).trans rfl
theorem cellS103_1 {W : World} {g : Nat} {A0 : Option Addr} {c0 : Nat} {f0 : List Int} {f1 : Int} (h : W.heap[g]? = some (.cells #[.slice A0 f0.length c0, .int .i64 f1] 103 (0, 0))) : W.cell? ⟨g, 1, none⟩ = some (.int .i64 f1) := (blk_cell h 1).trans rfl
theorem IsS103.set_1 {w0 W : World} {g : Nat} {f0 : List Int} {f1 : Int} (h : IsS103 w0 W g f0 f1) (x : Int) : IsS103 w0 (W.setCell ⟨g, 1, none⟩ (.int .i64 x)) g f0 x := by
 obtain ⟨A0, c0, hb, hg, gL⟩ := h
 exact ⟨A0, c0, by simpa using blk_set hb 1 (.int .i64 x), hg, gL⟩
def spec_l1Open.f (l0 : List Int) : Option (List Int × Int) := if (l0.length : Int) > 2000 then (if 2000 ≤ (l0.length : Int) then (some (l0.take 2000, 0)) else (none)) else (some (l0, 0))
theorem spec_l1Open.calls (A0 : Option Addr) (c0 : Nat) (l0 : List Int) (r1 : List Int) (r2 : Int) (w0 w : World) (hB : Below w0.heap.size w0 w) (gL : Kd.C (Kd.int .u8) w0 A0 l0.length l0) (l7 : l0.length ≤ c0) (h : spec_l1Open.f l0 = some (r1, r2)) :
  Calls Try.prog 97 #[.slice A0 l0.length c0] w fun e w' => ∃ g_ : Nat, e = .returned (.pointer (some ⟨g_, 0, none⟩)) ∧ IsS103 w0 w' g_ r1 r2 ∧ Below w0.heap.size w0 w' ∧ Below w.heap.size w w' := by
 have hu103 := Try.underlying103
 obtain ⟨hL, wE⟩ := mZ2 gL l7
 clear gL l7
 have HBW := am (Below.refl w.heap.size w)
 have HW0 := am hB.size
 have HB := am hB
 clear hB
 unfold spec_l1Open.f at h
 have H := h
 clear h
 by_cases c2 : (l0.length : Int) > 2000
 ·rw [if_pos c2] at H
  have LU : decide (2000 < (l0.length : Int)) = true := decide_eq_true c2
  have LV : decide (2000 < l0.length) = true := decide_eq_true (by omega)
  clear c2
  obtain ⟨pG, H4, H⟩ := cP H
  obtain ⟨rfl, rfl⟩ := sZ2 H
  repeat clear H
  obtain ⟨i04, Bv, _, hsz4, _⟩ := info_parts info5
  obtain ⟨hcut4, hA4, hC4⟩ := print_take_of (P := Try.prog) (Value.int .u8) 0 51 5 .i64 Try.underlying51 Bv hsz4 A0 c0 l0 2000 (by omega) (oT) wE.1
  have XA := am (Kd.C_of_reads (h1 := fun _ => rfl) (hA4 _ (Kd.reads_of_C hL.1)))
  have Tm := am hC4
  clear hA4 hC4 Bv hsz4
  go_enter Try.func97, Try.ntmps97
  go_wp2_with (first | ((with_reducible refine gD 10 ?_); refine bX 10 #[.slice A0 (l0.take 2000).length c0, .int .i64 0] 103 ?_; intro a8 hg w5 hbox hb; replace HB := bS cI hb; have a5 := am hbox; have eO := am (by rw [hg]; exact (below_size (by repeat (first | (with_reducible first | exact HBW.out | apply below_alloc | apply pw_below_drewN | apply below_drew1) | exact HBW.out))) : w.heap.size ≤ a8); have eZ := am (Nat.le_trans HW0.out (by rw [hg]; exact (below_size (by repeat (first | (with_reducible first | exact HBW.out | apply below_alloc | apply pw_below_drewN | apply below_drew1) | exact HBW.out))) : w.heap.size ≤ a8) : w0.heap.size ≤ a8); replace HBW := am (below_step HBW.out hb); clear hb hbox hg))
  go_ret
  exact ⟨_, rfl, (show IsS103 w0 _ a8 (l0.take 2000) 0 from ⟨_, _, rB a5.1, eZ.1, XA.1⟩), by repeat (first | (with_reducible first | exact HB.1 | apply below_alloc | apply pw_below_drewN | apply below_drew1 | refine below_set ?_ eZ.1) | exact HB.1), by repeat (first | (with_reducible first | exact HBW.out | apply below_alloc | apply pw_below_drewN | apply below_drew1 | refine below_set ?_ eO.out) | exact HBW.out)⟩
 rw [if_neg c2] at H
 have LU : decide (2000 < (l0.length : Int)) = false := decide_eq_false c2
 have LV : decide (2000 < l0.length) = false := decide_eq_false (by omega)
 clear c2
 obtain ⟨rfl, rfl⟩ := sZ2 H
 repeat clear H
 go_enter Try.func97, Try.ntmps97
 go_wp2_with (first | ((with_reducible refine gD 10 ?_); refine bX 10 #[.slice A0 l0.length c0, .int .i64 0] 103 ?_; intro iK hg w6 hbox hb; replace HB := bS cI hb; have dQ := am hbox; have CZ := am (by rw [hg]; exact (below_size (by repeat (first | (with_reducible first | exact HBW.out | apply below_alloc | apply pw_below_drewN | apply below_drew1) | exact HBW.out))) : w.heap.size ≤ iK); have sJ := am (Nat.le_trans HW0.out (by rw [hg]; exact (below_size (by repeat (first | (with_reducible first | exact HBW.out | apply below_alloc | apply pw_below_drewN | apply below_drew1) | exact HBW.out))) : w.heap.size ≤ iK) : w0.heap.size ≤ iK); replace HBW := am (below_step HBW.out hb); clear hb hbox hg))
 go_ret
 exact ⟨_, rfl, (show IsS103 w0 _ iK l0 0 from ⟨_, _, rB dQ.1, sJ.1, hL.1⟩), by repeat (first | (with_reducible first | exact HB.1 | apply below_alloc | apply pw_below_drewN | apply below_drew1 | refine below_set ?_ sJ.1) | exact HB.1), by repeat (first | (with_reducible first | exact HBW.out | apply below_alloc | apply pw_below_drewN | apply below_drew1 | refine below_set ?_ CZ.out) | exact HBW.out)⟩
def spec_l1Rd_pick.j0 : Nat → Int → Bool → List Int → Int → Option (Int × Int)
 | 0, _, _, _, _ => none
 | k + 1, c, d, a, b => if d = true then (some (0, b)) else (if (wrap64 (b - 1)) < (a.length : Int) then (if 0 ≤ (wrap64 (b - 1)) then (if c = 0 then (none) else (some (Int.tmod (wrap64 (rd a (wrap64 (b - 1)))) c, b))) else (none)) else (if (a.length : Int) = 0 then (none) else (if 0 ≤ (Int.tmod (wrap64 (b - 1)) (a.length : Int)) then (if (Int.tmod (wrap64 (b - 1)) (a.length : Int)) < (a.length : Int) then (if 0 ≤ (Int.tmod (wrap64 ((wrap64 ((wrap64 (b - 1)) * 7)) + 3)) (a.length : Int)) then (if (Int.tmod (wrap64 ((wrap64 ((wrap64 (b - 1)) * 7)) + 3)) (a.length : Int)) < (a.length : Int) then (if c = 0 then (none) else (some (Int.tmod (Go.bits .xor .i64 (wrap64 ((wrap64 ((wrap64 ((wrap64 ((wrap64 (rd a (Int.tmod (wrap64 (b - 1)) (a.length : Int)))) * 131)) + (wrap64 ((wrap64 (rd a (Int.tmod (wrap64 ((wrap64 ((wrap64 (b - 1)) * 7)) + 3)) (a.length : Int)))) * 1117)))) + (wrap64 ((wrap64 (b - 1)) * 29)))) + (wrap64 ((wrap64 (Int.tdiv (wrap64 (b - 1)) (a.length : Int))) * 53)))) (wrap64 (Int.tdiv (wrap64 ((wrap64 ((wrap64 ((wrap64 ((wrap64 (rd a (Int.tmod (wrap64 (b - 1)) (a.length : Int)))) * 131)) + (wrap64 ((wrap64 (rd a (Int.tmod (wrap64 ((wrap64 ((wrap64 (b - 1)) * 7)) + 3)) (a.length : Int)))) * 1117)))) + (wrap64 ((wrap64 (b - 1)) * 29)))) + (wrap64 ((wrap64 (Int.tdiv (wrap64 (b - 1)) (a.length : Int))) * 53)))) 64))) c, b))) else (none)) else (none)) else (none)) else (none))))
def spec_l1Rd_pick.f (k : Nat) (aJ : List Int) (cV : Int) (a1 : Int) : Option (Int × Int) := if a1 < 1 then (spec_l1Rd_pick.j0 k a1 true aJ (wrap64 (cV + 1))) else (spec_l1Rd_pick.j0 k a1 ((aJ.length : Int) == 0) aJ (wrap64 (cV + 1)))
theorem spec_l1Rd_pick.calls (k : Nat) (g : Nat) (aJ : List Int) (cV : Int) (a1 : Int) (r1 : Int) (r2 : Int) (w0 w : World) (hI : IsS103 w0 w g aJ cV) (hB : Below w0.heap.size w0 w) (h : spec_l1Rd_pick.f k aJ cV a1 = some (r1, r2)) :
  Calls Try.prog 100 #[.pointer (some ⟨g, 0, none⟩), .int .i64 a1] w fun e w' => e = .returned (.int .i64 r1) ∧ IsS103 w0 w' g aJ r2 ∧ Below w0.heap.size w0 w' ∧ KeepBut w w' g none := by
 have cD := am hI
 have HK := am (KeepBut.refl w g none)
 have HL := am hB.size
 clear hI
 have HW0 := am hB.size
 have HB := am hB
 clear hB
 unfold spec_l1Rd_pick.f at h
 have H := h
 clear h
 have QQ := am H
 clear H
 obtain ⟨ASz4_0, cSz4_0, HGz4, hgz4, HSz4_0⟩ := cD.out
 have U6 := cellS103_0 HGz4
 have U7 := cellS103_1 HGz4
 have UA := blk_frozen HGz4 1
 clear HGz4 hgz4
 go_enter Try.func100, Try.ntmps100
 go_upto_region 2 with ((fail))
 repeat (go_quiet (fail); go_upto_region 2 with (fail))
 go_cut [24] (fun Sb wc => ∃ (kq : Nat) (GU : Bool), Sb = .bool GU ∧ Aside0 (spec_l1Rd_pick.j0 kq a1 GU aJ (wrap64 (cV + 1)) = some (r1, r2)) ∧ Aside0 (kq ≤ k) ∧ Aside0 (IsS103 w0 wc g aJ (wrap64 (cV + 1))) ∧ Aside0 (KeepBut w wc g none) ∧ Aside0 (Below w0.heap.size w0 wc))
 case first =>
  have H := QQ.1
  clear QQ
  by_cases c5 : a1 < 1
  ·rw [if_pos c5] at H
   have pH : decide (a1 < 1) = true := decide_eq_true c5
   clear c5
   (first | rw [pH] | (simp only [i64_w, i32_w]; rw [pH]) | skip)
   have H' := am H
   repeat clear H
   go_wp2
   repeat (go_quiet (fail); try go_wp2)
   go_meet
   exact ⟨_, (true), aQ, H', ⟨by first | omega | exact Nat.le_refl _⟩, ⟨iY⟩, ⟨nV⟩, ⟨nU⟩⟩
  rw [if_neg c5] at H
  have pH : decide (a1 < 1) = false := decide_eq_false c5
  clear c5
  (first | rw [pH] | (simp only [i64_w, i32_w]; rw [pH]) | skip)
  have H' := am H
  repeat clear H
  obtain ⟨ASz6_0, cSz6_0, HGz6, hgz6, HSz6_0⟩ := cD.out
  have Pp := cellS103_0 HGz6
  have Pq := cellS103_1 HGz6
  have Pv := blk_frozen HGz6 1
  clear HGz6 hgz6
  go_wp2
  repeat (go_quiet (fail); try go_wp2)
  go_meet
  exact ⟨_, (((aJ.length : Int) == 0)), aQ, H', ⟨by first | omega | exact Nat.le_refl _⟩, ⟨iY⟩, ⟨nV⟩, ⟨nU⟩⟩
 clear QQ
 try clear U6 U7 UA
 obtain ⟨kq, GU, rfl, HA, HJ2, cD, HK, HB⟩ := hcut
 cases kq with
 | zero => exact absurd HA.out (by simp [spec_l1Rd_pick.j0])
 | succ kj2 =>
  have H := HA.out
  clear HA
  simp only [spec_l1Rd_pick.j0] at H
  by_cases c7 : GU = true
  ·subst c7
   replace H := iT H
   obtain ⟨rfl, rfl⟩ := sZ2 H
   repeat clear H
   go_wp2
   repeat (go_quiet (fail); try go_wp2)
   go_ret
   exact ⟨eR, iY, nU, nV⟩
  ·replace c7 := Bool.eq_false_iff.mpr c7
   subst c7
   replace H := iF H
   by_cases c8 : (wrap64 ((wrap64 (cV + 1)) - 1)) < (aJ.length : Int)
   ·rw [if_pos c8] at H
    have sD : decide ((wrap64 ((wrap64 (cV + 1)) - 1)) < (aJ.length : Int)) = true := decide_eq_true c8
    clear c8
    obtain ⟨ji9, hji9⟩ : ∃ j_ : Int, (wrap64 ((wrap64 (cV + 1)) - 1)) = j_ := ⟨_, rfl⟩
    replace H : (if 0 ≤ (ji9) then (if a1 = 0 then (none) else (some (Int.tmod (wrap64 (rd aJ (ji9))) a1, (wrap64 (cV + 1))))) else (none)) = some (r1, r2) := by first | (rw [hji9] at H; exact H) | (simp only [hji9] at H ⊢; exact H)
    (try rw [hji9] at sD)
    have hji9w : (IntKind.i64.wrap ((wrap64 (cV + 1)) - 1)) = ji9 := (i64_w _).trans hji9
    by_cases D9 : 0 ≤ (ji9)
    ·rw [if_pos D9] at H
     have n9 : decide (0 ≤ (ji9)) = true := decide_eq_true D9
     clear D9
     by_cases yR : a1 = 0
     ·rw [if_pos yR] at H
      exact absurd H (by simp)
     ·rw [if_neg yR] at H
      have qH : (a1 == 0) = false := beq_eq_false_iff_ne.mpr yR
      have YU : (a1 != 0) = true := bne_iff_ne.mpr yR
      obtain ⟨rfl, rfl⟩ := sZ2 H
      repeat clear H
      obtain ⟨ASz12_0, cSz12_0, HGz12, hgz12, HSz12_0⟩ := cD.out
      have Ez := cellS103_0 HGz12
      have Fa := cellS103_1 HGz12
      have Gc := blk_frozen HGz12 1
      clear HGz12 hgz12
      have kZ : 0 ≤ ((ji9) : Int) := oT
      have l5 : (ji9) < (aJ.length : Int) := oT
      obtain ⟨dS, eY, e0⟩ := Kd.at_int HSz12_0 (ji9) kZ l5
      cases eY
      replace e0 := pw_cell_below HB.1 e0
      replace kZ := eq_true kZ
      replace l5 := eq_true l5
      go_wp2
      repeat (go_quiet (fail); try go_wp2)
      go_ret
      exact ⟨by first | rfl | (simp [errW_none, errW_some] <;> rfl) | (simp only [← hji9]; first | rfl | (simp [errW_none, errW_some] <;> rfl)) | (simp [*, errW_none, errW_some] <;> rfl), iY, nU, nV⟩
    ·rw [if_neg D9] at H
     exact absurd H (by simp)
   ·rw [if_neg c8] at H
    have sD : decide ((wrap64 ((wrap64 (cV + 1)) - 1)) < (aJ.length : Int)) = false := decide_eq_false c8
    clear c8
    by_cases EN : (aJ.length : Int) = 0
    ·rw [if_pos EN] at H
     exact absurd H (by simp)
    ·rw [if_neg EN] at H
     have zP : ((aJ.length : Int) == 0) = false := beq_eq_false_iff_ne.mpr EN
     have YV : ((aJ.length : Int) != 0) = true := bne_iff_ne.mpr EN
     have Xo : ¬ (aJ = []) := fun h_ => EN (by rw [h_]; rfl)
     obtain ⟨ji14, hji14⟩ : ∃ j_ : Int, (Int.tmod (wrap64 ((wrap64 (cV + 1)) - 1)) (aJ.length : Int)) = j_ := ⟨_, rfl⟩
     replace H : (if 0 ≤ (ji14) then (if (ji14) < (aJ.length : Int) then (if 0 ≤ (Int.tmod (wrap64 ((wrap64 ((wrap64 ((wrap64 (cV + 1)) - 1)) * 7)) + 3)) (aJ.length : Int)) then (if (Int.tmod (wrap64 ((wrap64 ((wrap64 ((wrap64 (cV + 1)) - 1)) * 7)) + 3)) (aJ.length : Int)) < (aJ.length : Int) then (if a1 = 0 then (none) else (some (Int.tmod (Go.bits .xor .i64 (wrap64 ((wrap64 ((wrap64 ((wrap64 ((wrap64 (rd aJ (ji14))) * 131)) + (wrap64 ((wrap64 (rd aJ (Int.tmod (wrap64 ((wrap64 ((wrap64 ((wrap64 (cV + 1)) - 1)) * 7)) + 3)) (aJ.length : Int)))) * 1117)))) + (wrap64 ((wrap64 ((wrap64 (cV + 1)) - 1)) * 29)))) + (wrap64 ((wrap64 (Int.tdiv (wrap64 ((wrap64 (cV + 1)) - 1)) (aJ.length : Int))) * 53)))) (wrap64 (Int.tdiv (wrap64 ((wrap64 ((wrap64 ((wrap64 ((wrap64 (rd aJ (ji14))) * 131)) + (wrap64 ((wrap64 (rd aJ (Int.tmod (wrap64 ((wrap64 ((wrap64 ((wrap64 (cV + 1)) - 1)) * 7)) + 3)) (aJ.length : Int)))) * 1117)))) + (wrap64 ((wrap64 ((wrap64 (cV + 1)) - 1)) * 29)))) + (wrap64 ((wrap64 (Int.tdiv (wrap64 ((wrap64 (cV + 1)) - 1)) (aJ.length : Int))) * 53)))) 64))) a1, (wrap64 (cV + 1))))) else (none)) else (none)) else (none)) else (none)) = some (r1, r2) := by first | (rw [hji14] at H; exact H) | (simp only [hji14] at H ⊢; exact H)
     by_cases RQ : 0 ≤ (ji14)
     ·rw [if_pos RQ] at H
      have DB : decide (0 ≤ (ji14)) = true := decide_eq_true RQ
      clear RQ
      by_cases DC : (ji14) < (aJ.length : Int)
      ·rw [if_pos DC] at H
       have tE : decide ((ji14) < (aJ.length : Int)) = true := decide_eq_true DC
       clear DC
       obtain ⟨ji17, hji17⟩ : ∃ j_ : Int, (Int.tmod (wrap64 ((wrap64 ((wrap64 ((wrap64 (cV + 1)) - 1)) * 7)) + 3)) (aJ.length : Int)) = j_ := ⟨_, rfl⟩
       replace H : (if 0 ≤ (ji17) then (if (ji17) < (aJ.length : Int) then (if a1 = 0 then (none) else (some (Int.tmod (Go.bits .xor .i64 (wrap64 ((wrap64 ((wrap64 ((wrap64 ((wrap64 (rd aJ (ji14))) * 131)) + (wrap64 ((wrap64 (rd aJ (ji17))) * 1117)))) + (wrap64 ((wrap64 ((wrap64 (cV + 1)) - 1)) * 29)))) + (wrap64 ((wrap64 (Int.tdiv (wrap64 ((wrap64 (cV + 1)) - 1)) (aJ.length : Int))) * 53)))) (wrap64 (Int.tdiv (wrap64 ((wrap64 ((wrap64 ((wrap64 ((wrap64 (rd aJ (ji14))) * 131)) + (wrap64 ((wrap64 (rd aJ (ji17))) * 1117)))) + (wrap64 ((wrap64 ((wrap64 (cV + 1)) - 1)) * 29)))) + (wrap64 ((wrap64 (Int.tdiv (wrap64 ((wrap64 (cV + 1)) - 1)) (aJ.length : Int))) * 53)))) 64))) a1, (wrap64 (cV + 1))))) else (none)) else (none)) = some (r1, r2) := by first | (rw [hji17] at H; exact H) | (simp only [hji17] at H ⊢; exact H)
       by_cases EP : 0 ≤ (ji17)
       ·rw [if_pos EP] at H
        have mF : decide (0 ≤ (ji17)) = true := decide_eq_true EP
        clear EP
        by_cases Ex : (ji17) < (aJ.length : Int)
        ·rw [if_pos Ex] at H
         have OO : decide ((ji17) < (aJ.length : Int)) = true := decide_eq_true Ex
         clear Ex
         by_cases E6 : a1 = 0
         ·rw [if_pos E6] at H
          exact absurd H (by simp)
         ·rw [if_neg E6] at H
          have tF : (a1 == 0) = false := beq_eq_false_iff_ne.mpr E6
          have OP : (a1 != 0) = true := bne_iff_ne.mpr E6
          obtain ⟨rfl, rfl⟩ := sZ2 H
          repeat clear H
          obtain ⟨ASz21_0, cSz21_0, HGz21, hgz21, HSz21_0⟩ := cD.out
          have MF := cellS103_0 HGz21
          have MG := cellS103_1 HGz21
          have MH := blk_frozen HGz21 1
          clear HGz21 hgz21
          have oF : 0 ≤ ((ji14) : Int) := oT
          have oH : (ji14) < (aJ.length : Int) := oT
          obtain ⟨fA, iE, f7⟩ := Kd.at_int HSz21_0 (ji14) oF oH
          cases iE
          replace f7 := pw_cell_below HB.1 f7
          replace oF := eq_true oF
          replace oH := eq_true oH
          have nR : 0 ≤ ((ji17) : Int) := oT
          have nW : (ji17) < (aJ.length : Int) := oT
          obtain ⟨fC, lF, g9⟩ := Kd.at_int HSz21_0 (ji17) nR nW
          obtain rfl : fA = fC := (by injection lF)
          replace g9 := pw_cell_below HB.1 g9
          replace nR := eq_true nR
          replace nW := eq_true nW
          go_wp2
          repeat (go_quiet (fail); try go_wp2)
          go_ret
          exact ⟨by first | rfl | (simp [errW_none, errW_some] <;> rfl) | (simp only [← hji14, ← hji17]; first | rfl | (simp [errW_none, errW_some] <;> rfl)) | (simp [*, errW_none, errW_some] <;> rfl), iY, nU, nV⟩
        ·rw [if_neg Ex] at H
         exact absurd H (by simp)
       ·rw [if_neg EP] at H
        exact absurd H (by simp)
      ·rw [if_neg DC] at H
       exact absurd H (by simp)
     ·rw [if_neg RQ] at H
      exact absurd H (by simp)
theorem foot_inner {w W : World} {g n : Nat} {ad : Addr} {xs : List S56} (hf : ∀ W_, KeepBut w W_ g none → Kd.C k56 W_ (some ad) n xs) (hk : KeepBut w W g none) (i : Int) (h0 : 0 ≤ i) (h1 : i < n) {A2 : Option Addr} {c2 : Nat}
  (hx : W.cell? ⟨(ad.add (i.toNat * 3)).block, (ad.add (i.toNat * 3)).off + 2, none⟩ = some (.slice A2 (rd_T56 xs i).f2.length c2)) : ∀ W_, KeepBut w W_ g none → Kd.C Kd.string W_ A2 (rd_T56 xs i).f2.length (rd_T56 xs i).f2 := by
 intro W_ hk_
 have hne : (⟨(ad.add (i.toNat * 3)).block, (ad.add (i.toNat * 3)).off + 2, none⟩ : Addr).block ≠ g := by
  show (ad.add (i.toNat * 3)).block ≠ g
  rw [add_block]
  exact Kd.foot_ne hf (by omega) (by decide)
 obtain ⟨a, _, _, B, b, e, _, _, hw, _⟩ := at_T56 (hf w (KeepBut.refl w g none)) i h0 h1
 cases e
 have e1 := (keep_cell hk hw hne).symm.trans hx
 obtain ⟨a, _, _, B2, b2, e, _, _, Qi, _, _, _, hc⟩ := at_T56 (hf W_ hk_) i h0 h1
 cases e
 have e2 := (keep_cell hk_ hw hne).symm.trans Qi
 injection e1 with e1
 injection e1 with e1 _ _
 injection e2 with e2
 injection e2 with e2 _ _
 rw [← e1, e2]
 exact hc
theorem foot_far {w : World} {g n : Nat} {A : Option Addr} {l : List ByteArray} (h : ∀ W_, KeepBut w W_ g none → Kd.C Kd.string W_ A n l) : ∀ ad, A = some ad → 0 < n → ad.block ≠ g := fun ad e hn => by
  subst e
  exact Kd.foot_ne h hn (by decide)
def spec_l1Rd_of.f (k : Nat) (aJ : List Int) (cV : Int) (l1 : List ByteArray) : Option (ByteArray × Int) := (spec_l1Rd_pick.f k aJ cV (l1.length : Int)).bind fun a => (if 0 ≤ a.1 then (if a.1 < (l1.length : Int) then (some (rdOf ByteArray.empty l1 a.1, a.2)) else (none)) else (none))
theorem spec_l1Rd_of.calls (k : Nat) (g : Nat) (aJ : List Int) (cV : Int) (A1 : Option Addr) (c1 : Nat) (l1 : List ByteArray) (r1 : ByteArray) (r2 : Int) (w0 w : World) (hI : IsS103 w0 w g aJ cV) (hB : Below w0.heap.size w0 w) (qQ : Kd.C Kd.string w A1 l1.length l1) (sW : l1.length ≤ c1) (hf1 : ∀ ad, A1 = some ad → 0 < l1.length → ad.block ≠ g) (h : spec_l1Rd_of.f k aJ cV l1 = some (r1, r2)) :
  Calls Try.prog 101 #[.pointer (some ⟨g, 0, none⟩), .slice A1 l1.length c1] w fun e w' => e = .returned (.string r1) ∧ IsS103 w0 w' g aJ r2 ∧ Below w0.heap.size w0 w' ∧ KeepBut w w' g none := by
 obtain ⟨qX, sS⟩ := mZ2 qQ sW
 clear qQ sW
 have cD := am hI
 have HK := am (KeepBut.refl w g none)
 have HL := am hB.size
 clear hI
 have HW0 := am hB.size
 have HB := am hB
 clear hB
 unfold spec_l1Rd_of.f at h
 have H := h
 clear h
 obtain ⟨⟨eJ, eB⟩, A3, H⟩ := bd H
 dsimp only at H
 obtain ⟨jE, H⟩ := cN H
 obtain ⟨pH, H⟩ := cN H
 obtain ⟨rfl, rfl⟩ := sZ2 H
 repeat clear H
 go_enter Try.func101, Try.ntmps101
 go_wp2_with (first | ((with_reducible refine gC 100 ?_); refine cQ (some 9) Try.func100 (spec_l1Rd_pick.calls k g aJ cV (l1.length : Int) eJ eB w0 _ (iY) (nU) A3.out) ?_; rintro w6 ⟨hi, hb, hk⟩; replace HK := kT w g nV hk; replace HB := am hb; replace cD := am hi; (try clear hb); (try clear hk); (try clear hi); have nR : 0 ≤ (eJ : Int) := oT; have nW : eJ < (l1.length : Int) := oT; obtain ⟨fC, lF, g9⟩ := Kd.at_string qX.1 eJ nR nW; cases lF; replace g9 := keep_cell HK.out g9 (by first | (rw [add_block]; exact hf1 _ rfl (by omega)) | exact hf1 _ rfl (by omega) | exact hf1 fC rfl (by omega)); replace nR := eq_true nR; replace nW := eq_true nW))
 go_ret
 exact ⟨eR, iY, nU, nV⟩
def spec_l5Some.l0 : Nat → List ByteArray → Int → List ByteArray → Int → List Int → Int → Option (List ByteArray × Int)
 | 0, _, _, _, _, _, _ => none
 | k + 1, b, d, c, a, e, h => if a < (b.length : Int) then ((spec_l1Rd_pick.f k e h d).bind fun g => (if g.1 = 0 then (if 0 ≤ a then (if c.length < 8796093022208 then (spec_l5Some.l0 k b d (c ++ [rdOf ByteArray.empty b a]) (wrap64 (a + 1)) e g.2) else (none)) else (none)) else (spec_l5Some.l0 k b d c (wrap64 (a + 1)) e g.2))) else (some (c, h))
def spec_l5Some.f (k : Nat) (aJ : List Int) (cV : Int) (l1 : List ByteArray) (a2 : Int) : Option (List ByteArray × Int) := spec_l5Some.l0 k l1 a2 (([] : List ByteArray)) 0 aJ cV
theorem spec_l5Some.calls (k : Nat) (g : Nat) (aJ : List Int) (cV : Int) (A1 : Option Addr) (c1 : Nat) (l1 : List ByteArray) (a2 : Int) (r1 : List ByteArray) (r2 : Int) (w0 w : World) (hI : IsS103 w0 w g aJ cV) (hB : Below w0.heap.size w0 w) (qQ : Kd.C Kd.string w A1 l1.length l1) (sW : l1.length ≤ c1) (hf1 : ∀ ad, A1 = some ad → 0 < l1.length → ad.block ≠ g) (h : spec_l5Some.f k aJ cV l1 a2 = some (r1, r2)) :
  Calls Try.prog 109 #[.pointer (some ⟨g, 0, none⟩), .slice A1 l1.length c1, .int .i64 a2] w fun e w' => ∃ v0_ : Value, e = .returned (v0_) ∧ Kd.R Kd.string 9 w' w.heap.size (fun _ => True) v0_ r1 ∧ IsS103 w0 w' g aJ r2 ∧ Below w0.heap.size w0 w' ∧ KeepBut w w' g none := by
 obtain ⟨qX, sS⟩ := mZ2 qQ sW
 clear qQ sW
 have cD := am hI
 have HK := am (KeepBut.refl w g none)
 have HL := am hB.size
 clear hI
 have HW0 := am hB.size
 have HB := am hB
 clear hB
 unfold spec_l5Some.f at h
 have H := h
 clear h
 obtain ⟨CT, hy101⟩ : ∃ y_ : List ByteArray, y_ = (([] : List ByteArray)) := ⟨_, rfl⟩
 replace H : (spec_l5Some.l0 k l1 a2 CT 0 aJ cV) = some (r1, r2) := by first | (rw [hy101]; with_reducible exact H) | (have H2_ := (Option.bind_some _ _).symm.trans H; rw [hy101]; with_reducible exact H2_) | (have H2_ := (Option.bind_some _ _).symm.trans H; with_reducible exact H2_) | with_reducible exact H | (rw [hy101]; exact H) | exact H
 have qE := am hy101
 clear hy101
 have H' := am H
 repeat clear H
 go_enter Try.func109, Try.ntmps109
 go_wp2_with (first | ((with_reducible refine gate_dst (N := 9) rfl ?_); refine lS 9 9 qE ?_; intro HQ w4 da hb; have cS := am (Kd.R_lower da (kz w g nV)); replace HK := kU w g nV hb; replace HB := bS nU hb; replace cD := am (IsS103.below iY hb); clear hb da))
 go_loopg [7, 8] k (fun kq v7 v8 w' => ∃ (d7 : List ByteArray) (qO : Int) (eT : Int), v8 = .int .i64 qO ∧ Aside0 (spec_l5Some.l0 kq l1 a2 d7 qO aJ eT = some (r1, r2)) ∧ Aside0 (kq ≤ k) ∧ Aside0 (Kd.R Kd.string 9 w' w.heap.size (fun _ => True) v7 d7) ∧ Aside0 (IsS103 w0 w' g aJ eT) ∧ Aside0 (KeepBut w w' g none) ∧ Aside0 (Below w0.heap.size w0 w'))
 case atStart => exact ⟨(CT), (0), (cV), aQ, H', ⟨Nat.le_refl _⟩, ⟨rR cS.1⟩, ⟨iY⟩, ⟨nV⟩, ⟨nU⟩⟩
 clear H'
 try clear c1
 obtain ⟨d7, qO, eT, rfl, HA, HK1, yQ, cD, HK, HB⟩ := hrel
 cases gk with
 | zero => exact absurd HA.out (by simp [spec_l5Some.l0])
 | succ k1 =>
  have H := HA.out
  clear HA
  simp only [spec_l5Some.l0] at H
  refine ic H ?_ ?_ <;> clear H <;> intro sC H
  ·obtain ⟨⟨aN, e7⟩, A7, H⟩ := bd H
   dsimp only at H
   refine iq H ?_ ?_ <;> clear H <;> intro c8 sD Nm H
   ·obtain ⟨vQ, H⟩ := cN H
    obtain ⟨IC, H⟩ := cL H
    obtain ⟨z6, tA⟩ := yv (d7 ++ [rdOf ByteArray.empty l1 qO]); first | replace H := bW tA H | rw [← tA.1] at H
    have H' := am H
    repeat clear H
    go_wp2_with (first | ((with_reducible refine gC 100 ?_); refine cQ (some 18) Try.func100 (spec_l1Rd_pick.calls k1 g aJ eT a2 aN e7 w0 _ (iY) (nU) A7.out) ?_; rintro Sf ⟨hi, hb, hk⟩; replace yQ := iR iY (rR yQ.1) hk; replace HK := kT w g nV hk; replace HB := am hb; replace cD := am hi; (try clear hb); (try clear hk); (try clear hi); have wR : 0 ≤ (qO : Int) := oT; have sF : qO < (l1.length : Int) := oT; obtain ⟨l9, pI, iL⟩ := Kd.at_string qX.1 qO wR sF; cases pI; replace iL := keep_cell HK.out iL (by first | (rw [add_block]; exact hf1 _ rfl (by omega)) | exact hf1 _ rfl (by omega) | exact hf1 l9 rfl (by omega)); replace wR := eq_true wR; replace sF := eq_true sF) | ((with_reducible refine gate_builtin (b := .append) (xs := #[.tmp 20, .tmp 25]) rfl ?_); at_builtin; refine Kd.R_append Kd.string w.heap.size rfl (.tmp 20) (.tmp 25) 23 9 (.string ⟨#[]⟩) 16 rfl Try.underlying23 info9 rfl (by decide) (by omega) u7 d7 (rdOf ByteArray.empty l1 qO) [.string (rdOf ByteArray.empty l1 qO)] (fun _ => True) (fun _ => False) rfl rfl ?aP (fun _ hk => hk.elim) ?aF ?aO (Below.refl _ _) ?aS ?aL ?_; (case aP => exact rfl); (case aF => exact (fun _ _ => trivial)); (case aO => exact (rR yQ.1)); (case aS => exact (kz w g nV)); (case aL => have := IC.out; omega); intro qN Sj ho hb hg hat; rw [← tA.out] at ho; replace HB := am (below_weaken nU HL.out hb); replace cD := am (IsS103.grown iY hg (IsS103.own_ne cD.out yQ.1 (by decide))); replace HK := am (KeepBut.trans nV (KeepBut.of_grown hg g) (Kd.R_base2 yQ.1)); have bV := am ho; clear yQ; clear ho hb hg hat))
    go_roundg k1
    case measure => have := HK1.out; omega
    case rel => exact ⟨(z6), (wrap64 (qO + 1)), (e7), aQ, H', ⟨by have := HK1.out; omega⟩, ⟨rR bV.1⟩, ⟨iY⟩, ⟨nV⟩, ⟨nU⟩⟩
   ·have H' := am H
    repeat clear H
    go_wp2_with (first | ((with_reducible refine gC 100 ?_); refine cQ (some 18) Try.func100 (spec_l1Rd_pick.calls k1 g aJ eT a2 aN e7 w0 _ (iY) (nU) A7.out) ?_; rintro KD ⟨hi, hb, hk⟩; replace yQ := iR iY (rR yQ.1) hk; replace HK := kT w g nV hk; replace HB := am hb; replace cD := am hi; (try clear hb); (try clear hk); (try clear hi)))
    go_roundg k1
    case measure => have := HK1.out; omega
    case rel => exact ⟨(d7), (wrap64 (qO + 1)), (e7), aQ, H', ⟨by have := HK1.out; omega⟩, ⟨rR yQ.1⟩, ⟨iY⟩, ⟨nV⟩, ⟨nU⟩⟩
  ·obtain ⟨rfl, rfl⟩ := sZ2 H
   repeat clear H
   go_wp2
   go_ret
   exact ⟨_, eR, rR yQ.1, iY, nU, nV⟩
def spec_l5Names.f  : Option (List ByteArray) := some (([(⟨#[97, 108, 101]⟩ : ByteArray), (⟨#[98]⟩ : ByteArray), (⟨#[99, 45, 99]⟩ : ByteArray), (⟨#[100, 97, 114, 107]⟩ : ByteArray), (⟨#[120, 57]⟩ : ByteArray)] : List ByteArray))
theorem spec_l5Names.calls  (r : List ByteArray) (w : World) (h : spec_l5Names.f  = some r) :
  Calls Try.prog 132 #[] w fun e w' => ∃ v0_ : Value, e = .returned (v0_) ∧ Kd.R Kd.string 9 w' w.heap.size (fun _ => True) v0_ r ∧ Below w.heap.size w w' := by
 have HB := am (Below.refl w.heap.size w)
 unfold spec_l5Names.f at h
 have H := h
 clear h
 obtain ⟨CT, qE⟩ := yv (([(⟨#[97, 108, 101]⟩ : ByteArray), (⟨#[98]⟩ : ByteArray), (⟨#[99, 45, 99]⟩ : ByteArray), (⟨#[100, 97, 114, 107]⟩ : ByteArray), (⟨#[120, 57]⟩ : ByteArray)] : List ByteArray)); first | replace H := bW qE H | rw [← qE.1] at H
 obtain rfl := Option.some.inj H
 repeat clear H
 go_enter Try.func132, Try.ntmps132
 go_wp2_with (first | ((with_reducible refine gate_dst (N := 1) rfl ?_); refine lS 9 1 qE ?_; intro HQ w1 UE hb; have cS := am (Kd.R_lower UE (below_size cI)); replace HB := bS cI hb; clear hb UE))
 go_ret
 exact ⟨_, eR, rR cS.1, cI⟩
end Go.Proofs.Ytaofjgnhapnndaa.Q
