/- Texts that the row needs: words on memory and rows, the contracts of the functions it reaches, and the plain lemmas on what they compute. -/
import Derived.Shelf.Abstract
import Derived.Test.YtaofjgnhapnndaaGreatXktae
set_option maxHeartbeats 8000000
set_option maxRecDepth 100000
open Go.Proofs.YtaofjgnhapnndaaGreatFkt
namespace Go.Proofs.YtaofjgnhapnndaaGreat.Q
open Go.RowKit Go.Proofs.YtaofjgnhapnndaaGreatW.PrintWords Go.Proofs.YtaofjgnhapnndaaGreatW.PrintLast Go.Proofs.YtaofjgnhapnndaaGreatW.PrintMore
set_option linter.unusedVariables false
set_option linter.unusedSimpArgs false
def av (g : Nat) (lb : Array Value) (p : ByteArray → Bool) (w : World) : Prop :=
  ∀ (W : World) (s : ByteArray), Below w.heap.size w W → Calls Tryz.prog g (#[.string s] ++ lb) W fun e w' => e = .returned (.bool (p s)) ∧ Below w.heap.size w w'
theorem V3 {α : Type} {d : Kd α} {w : World} {A : Option Addr} {n : Nat} {xs : List α} (h : d.C w A n xs) : n ≤ 9223372036854775807 := h.2.1
def idxP (p : ByteArray → Bool) : List ByteArray → Nat → Int
  | [], _ => -1
  | x :: xs, i => if p x = true then (i : Int) else idxP p xs (i + 1)
theorem Bn (p : ByteArray → Bool) : ∀ (l : List ByteArray) (i : Nat), decide (0 ≤ idxP p l i) = l.any p := by
 intro l
 induction l with
 | nil => intro i; simp [idxP]
 | cons x xs ih =>
  intro i
  unfold idxP
  cases h : p x with
  | true => simp [h]
  | false => simp [h, ih]
set_option maxHeartbeats 2000000 in
theorem KM (g : Nat) (lb : Array Value) (eg : ∀ args w, (callFunc g args).run Tryz.prog w = .ok (.enter g args) w) (p : ByteArray → Bool) (A0 : Option Addr) (c0 : Nat) (l0 : List ByteArray) (w : World)
  (tM : Kd.C Kd.string w A0 l0.length l0) (hp : av g lb p w) :
  Calls Tryz.prog 70 #[.slice A0 l0.length c0, .func (.func g) #[] lb] w fun e w' => e = .returned (.int .i64 (idxP p l0 0)) ∧ Below w.heap.size w w' := by
 have hbig := V3 tM
 have tV := aC.mk tM
 clear tM
 have HP := aC.mk hp
 clear hp
 go_enter Tryz.func70, Tryz.ntmps70
 go_wp2
 go_loopg [5, 8] l0.length (fun gg _ s8 wr => ∃ kk : Nat, kk ≤ l0.length ∧ l0.length - kk ≤ gg ∧ s8 = .int .i64 kk ∧ aC (Below w.heap.size w wr) ∧ aC (idxP p l0 0 = idxP p (l0.drop kk) kk))
 case atStart => exact ⟨0, Nat.zero_le _, by omega, rfl, ⟨Below.refl _ w⟩, ⟨by rw [List.drop_zero]⟩⟩
 obtain ⟨kk, hkk, hg, rfl, BW, A⟩ := hrel
 by_cases hlt : kk < l0.length
 ·have hltz : (kk : Int) < (l0.length : Int) := by omega
  have e1 := A.out
  rw [List.drop_eq_getElem_cons hlt, idxP] at e1
  have E1 := aC.mk e1
  clear e1
  obtain ⟨ad, rfl, hx⟩ := Kd.xP tV.1 (kk : Int) (by omega) (by omega)
  rw [Cs _ _ _ hlt, Int.toNat_natCast] at hx
  have hcall := HP.out wr l0[kk] BW.out
  replace hx := (BW.out.cell (World.block_lt_of_cell? w _ hx)).trans hx
  generalize hy : l0[kk] = y at hx hcall E1
  clear hy
  cases hq : p y with
  | true =>
   rw [hq] at hcall
   have E2 : aC (idxP p l0 0 = kk) := ⟨by rw [E1.out, if_pos hq]⟩
   clear hq
   go_wp2_with (go_at_fn g; refine hcall.mono ?_; rintro e w' ⟨rfl, hb'⟩)
   go_ret
   exact ⟨by rw [E2.out]; rfl, hb'⟩
  | false =>
   rw [hq] at hcall
   have E2 : aC (idxP p l0 0 = idxP p (l0.drop (kk + 1)) (kk + 1)) := ⟨by rw [E1.out, if_neg (by simp [hq])]⟩
   clear hq
   go_wp2_with (go_at_fn g; refine hcall.mono ?_; rintro e w' ⟨rfl, hb'⟩)
   go_roundg (l0.length - (kk + 1))
   case measure => omega
   case rel => exact ⟨kk + 1, by omega, by omega, by go_num, ⟨hb'⟩, E2⟩
 have hltz : ¬ (kk : Int) < (l0.length : Int) := by omega
 have hk2 : kk = l0.length := by omega
 have E2 : aC (idxP p l0 0 = -1) := ⟨by rw [A.out, hk2, List.drop_length]; rfl⟩
 subst hk2
 go_wp2
 go_ret
 exact ⟨by rw [E2.out]; rfl, BW.out⟩
theorem EW (g : Nat) (lb : Array Value) (eg : ∀ args w, (callFunc g args).run Tryz.prog w = .ok (.enter g args) w) (p : ByteArray → Bool) (A0 : Option Addr) (c0 : Nat) (l0 : List ByteArray) (w : World)
  (tM : Kd.C Kd.string w A0 l0.length l0) (hp : av g lb p w) :
  Calls Tryz.prog 49 #[.slice A0 l0.length c0, .func (.func g) #[] lb] w fun e w' => e = .returned (.bool (l0.any p)) ∧ Below w.heap.size w w' := by
 have HC := aC.mk (KM g lb eg p A0 c0 l0 w tM hp)
 have HN := aC.mk (Bn p l0 0)
 clear tM hp eg
 generalize idxP p l0 0 = q at HC HN
 go_enter Tryz.func49, Tryz.ntmps49
 go_wp2_with (go_at_call 70; refine HC.out.mono ?_; rintro e w' ⟨rfl, hb'⟩)
 go_ret
 exact ⟨by rw [← HN.out]; rfl, hb'⟩
theorem Ar (s : ByteArray) (gb : Nat) (A1 : Option Addr) (c1 : Nat) (l1 : List ByteArray) (W : World) (H4 : l1.length ≤ c1) (hcell : W.cell? ⟨gb, 0, none⟩ = some (.slice A1 l1.length c1)) (H5 : Kd.C Kd.string W A1 l1.length l1) :
  Calls Tryz.prog 67 #[.string s, .pointer (some ⟨gb, 0, none⟩)] W fun e w' => e = .returned (.bool (hasS l1 s)) ∧ kX W w' := by
 have HH := am H5
 have KY := am H4
 have HK := am (IE l1 s (V3 H5))
 clear H5 H4
 generalize hasS l1 s = b at HK
 go_enter Tryz.func67, Tryz.ntmps67
 go_wp2_with ((go_at_call 45; refine (bJ.calls (l1.length + 1) A1 c1 l1 s b _ ?s1 KY.1 HK.out).mono ?_; (case s1 => repeat (first | exact HH.1 | (with_reducible refine Kd.nW ?_ _) | (with_reducible refine Kd.nX ?_ _) | (with_reducible refine Kd.pO ?_))); rintro e w' ⟨rfl, ⟨nd, rfl⟩⟩))
 go_ret
 exact ⟨rfl, iB⟩
def mD.f (l0 : List ByteArray) (l1 : List ByteArray) : Option (Bool) := some (l0.any (hasS l1))
theorem mD.calls (A0 : Option Addr) (c0 : Nat) (l0 : List ByteArray) (A1 : Option Addr) (c1 : Nat) (l1 : List ByteArray) (r : Bool) (w : World) (tM : Kd.C Kd.string w A0 l0.length l0) (yO : l0.length ≤ c0) (H5 : Kd.C Kd.string w A1 l1.length l1) (H4 : l1.length ≤ c1) (h : mD.f l0 l1 = some r) :
  Calls Tryz.prog 37 #[.slice A0 l0.length c0, .slice A1 l1.length c1] w fun e w' => e = .returned (.bool r) ∧ Below w.heap.size w w' := by
 obtain rfl := Option.some.inj h
 clear h
 have HW : aC (Below w.heap.size w (w.alloc (.cells #[.slice A1 l1.length c1] 23 (0, 0)))) := ⟨(Below.refl _ _).alloc (Nat.le_refl _) _⟩
 have HC : aC (Calls Tryz.prog 49 #[.slice A0 l0.length c0, .func (.func 67) #[] #[.pointer (some ⟨w.heap.size, 0, none⟩)]] (w.alloc (.cells #[.slice A1 l1.length c1] 23 (0, 0))) fun e w' => e = .returned (.bool (l0.any (hasS l1))) ∧ Below (w.alloc (.cells #[.slice A1 l1.length c1] 23 (0, 0))).heap.size (w.alloc (.cells #[.slice A1 l1.length c1] 23 (0, 0))) w') := by
  refine ⟨EW 67 _ (enters_of Tryz.func67 (by kernel_rfl) rfl) (hasS l1) A0 c0 l0 _ (Kd.aU tM HW.out) ?_⟩
  intro W s hb
  have hcell : W.cell? ⟨w.heap.size, 0, none⟩ = some (.slice A1 l1.length c1) := by
   rw [hb.cell (p := ⟨w.heap.size, 0, none⟩) (by simp)]
   simp
  exact (Ar s w.heap.size A1 c1 l1 W H4 hcell (Kd.aU (Kd.aU H5 HW.out) hb)).mono fun e w' ⟨he, hd⟩ => ⟨he, xH hb hb.size hd.below⟩
 generalize l0.any (hasS l1) = b at HC
 clear tM yO H5 H4
 go_enter Tryz.func37, Tryz.ntmps37
 go_wp2_with ((go_at_call 49; refine HC.out.mono ?_; rintro e w' ⟨rfl, hb'⟩))
 go_ret
 exact ⟨rfl, xH HW.out HW.out.size hb'⟩
def okc (c : Int) : Bool := (decide (97 ≤ c) && decide (c ≤ 122)) || (decide (48 ≤ c) && decide (c ≤ 57)) || decide (c = 45)
def wW (s : ByteArray) : Bool := decide (1 ≤ s.size) && decide (s.size ≤ 8) && (List.range' 0 s.size).all fun j => okc (bt s (j : Int))
theorem Sy {c : Int} (h : okc c = true) : (97 ≤ c ∧ c ≤ 122) ∨ (48 ≤ c ∧ c ≤ 57) ∨ c = 45 := by
 simpa [okc, or_assoc] using h
theorem Mk {c : Int} (h : okc c = false) : ¬ (97 ≤ c ∧ c ≤ 122) ∧ ¬ (48 ≤ c ∧ c ≤ 57) ∧ ¬ c = 45 := by
 simp only [okc, Bool.or_eq_false_iff, Bool.and_eq_false_iff, decide_eq_false_iff_not] at h
 omega
theorem YP {α : Type} (c : Int) (x y : α) :
  (if c ≥ 97 then (if c ≤ 122 then x else (if c ≥ 48 then (if c ≤ 57 then x else (if c = 45 then x else y)) else (if c = 45 then x else y))) else (if c ≥ 48 then (if c ≤ 57 then x else (if c = 45 then x else y)) else (if c = 45 then x else y))) = if okc c = true then x else y := by
 cases h : okc c with
 | true =>
  rw [if_pos rfl]
  have h := Sy h
  split
  ·split
   ·rfl
   ·split
    ·split
     ·rfl
     ·rw [if_pos (by omega)]
    ·rw [if_pos (by omega)]
  ·split
   ·split
    ·rfl
    ·rw [if_pos (by omega)]
   ·rw [if_pos (by omega)]
 | false =>
  rw [show (if false = true then x else y) = y from rfl]
  obtain ⟨h1, h2, h3⟩ := Mk h
  rw [if_neg h3]
  by_cases a : c ≥ 97
  ·rw [if_pos a, if_neg (fun b => h1 ⟨a, b⟩)]
   by_cases a2 : c ≥ 48
   ·rw [if_pos a2, if_neg (fun b => h2 ⟨a2, b⟩)]
   ·rw [if_neg a2]
  ·rw [if_neg a]
   by_cases a2 : c ≥ 48
   ·rw [if_pos a2, if_neg (fun b => h2 ⟨a2, b⟩)]
   ·rw [if_neg a2]
theorem Xv (s : ByteArray) (hs : s.size ≤ 9223372036854775807) : ∀ (d k i : Nat), s.size - i = d → i ≤ s.size → d < k →
  dX.l0 k s (i : Int) = some ((List.range' i d).all fun j => okc (bt s (j : Int))) := by
 intro d
 induction d with
 | zero =>
  intro k i hd hi hk
  obtain ⟨k, rfl⟩ : ∃ m, k = m + 1 := ⟨k - 1, by omega⟩
  simp only [dX.l0]
  rw [if_neg (by omega)]
  rfl
 | succ d ih =>
  intro k i hd hi hk
  obtain ⟨k, rfl⟩ : ∃ m, k = m + 1 := ⟨k - 1, by omega⟩
  simp only [dX.l0, List.range'_succ, List.all_cons]
  rw [if_pos (by omega), if_pos (by omega), YP]
  cases h : okc (bt s (i : Int)) with
  | true =>
   rw [if_pos rfl, WG (show i < s.size by omega) hs, ih k (i + 1) (by omega) (by omega) (by omega)]
   rfl
  | false =>
   rw [if_neg (by simp)]
   rfl
theorem Jv (s : ByteArray) : dX.f 10 s = some (wW s) := by
 unfold dX.f wW
 by_cases h1 : (s.size : Int) < 1
 ·rw [if_pos h1]
  simp only [dX.j0]
  rw [if_pos trivial, show decide (1 ≤ s.size) = false from decide_eq_false (by omega)]
  rfl
 rw [if_neg h1]
 simp only [dX.j0]
 by_cases h2 : (s.size : Int) > 8
 ·rw [if_pos (decide_eq_true h2), show decide (s.size ≤ 8) = false from decide_eq_false (by omega)]
  simp
 rw [if_neg (by simpa using h2), show (0 : Int) = ((0 : Nat) : Int) from rfl, Xv s (by omega) s.size 9 0 (by omega) (by omega) (by omega)]
 rw [show decide (s.size ≤ 8) = true from decide_eq_true (by omega), show decide (1 ≤ s.size) = true from decide_eq_true (by omega)]
 rfl
def o7.f (k : Nat) (a0 : ByteArray) : Option (Bool) := (dX.f k a0).bind fun a => (some (!a))
theorem o7.calls (k : Nat) (a0 : ByteArray) (r : Bool) (w : World) (h : o7.f k a0 = some r) :
  Calls Tryz.prog 50 #[.string a0] w fun e w' => e = .returned (.bool r) ∧ kX w w' := by
 unfold o7.f at h
 have H := h
 clear h
 obtain ⟨PJ, A2, H⟩ := bd H
 obtain rfl := Option.some.inj H
 repeat clear H
 go_enter Tryz.func50, Tryz.ntmps50
 go_wp2_with (first | ((with_reducible refine gC 25 ?_); refine cQ (some 4) Tryz.func25 (dX.calls k a0 PJ _ A2.out) ?_; rintro w' ⟨nd, rfl⟩))
 go_ret
 exact ⟨by first | rfl | (simp; done) | (simp [*]; done), iB⟩
theorem Fy (s : ByteArray) : o7.f 10 s = some (!wW s) := by
 unfold o7.f
 rw [Jv]
 rfl
def jJ.f (l0 : List ByteArray) : Option (Bool) := some (l0.any fun s => !wW s)
theorem jJ.calls (A0 : Option Addr) (c0 : Nat) (l0 : List ByteArray) (r : Bool) (w : World) (tM : Kd.C Kd.string w A0 l0.length l0) (yO : l0.length ≤ c0) (h : jJ.f l0 = some r) :
  Calls Tryz.prog 49 #[.slice A0 l0.length c0, .func (.func 50) #[] #[]] w fun e w' => e = .returned (.bool r) ∧ Below w.heap.size w w' := by
 obtain rfl := Option.some.inj h
 refine EW 50 #[] (enters_of Tryz.func50 (by kernel_rfl) rfl) (fun s => !wW s) A0 c0 l0 w tM (fun W s hb => ?_)
 exact (o7.calls 10 s (!wW s) W (Fy s)).mono fun e w' ⟨he, hd⟩ => ⟨he, xH hb hb.size hd.below⟩
mutual
def aM.j0 : Nat → Bool → List ByteArray → List (S52) → Option (Bool)
 | 0, _, _, _ => none
 | k + 1, b, c, a => if b = true then (some false) else (aM.l0 k a (a.length : Int) 0 c a)
def aM.l0 : Nat → List (S52) → Int → Int → List ByteArray → List (S52) → Option (Bool)
 | 0, _, _, _, _, _ => none
 | k + 1, b, e, a, c, d => if a < e then (if 0 ≤ a then (if a < (b.length : Int) then ((dX.f k ((aA b a).f0)).bind fun g => (if g = true then (if a > 0 then (if 0 ≤ (wrap64 (a - 1)) then (if (wrap64 (a - 1)) < (d.length : Int) then (if ((Op.bytesLess (((aA d (wrap64 (a - 1))).f0).toList) (((aA b a).f0).toList)) = true) then ((iC.f k ((aA b a).f2) c).bind fun h => (if h = true then ((iC.f k ((aA b a).f1) ((aA b a).f2)).bind fun i => (aM.j2 k a b e a (!i) c d ((aA b a).f0) ((aA b a).f1) ((aA b a).f2))) else (aM.j2 k a b e a true c d ((aA b a).f0) ((aA b a).f1) ((aA b a).f2)))) else (aM.j2 k a b e a true c d ((aA b a).f0) ((aA b a).f1) ((aA b a).f2))) else (none)) else (none)) else ((iC.f k ((aA b a).f2) c).bind fun j => (if j = true then ((iC.f k ((aA b a).f1) ((aA b a).f2)).bind fun l => (aM.j2 k a b e a (!l) c d ((aA b a).f0) ((aA b a).f1) ((aA b a).f2))) else (aM.j2 k a b e a true c d ((aA b a).f0) ((aA b a).f1) ((aA b a).f2))))) else (aM.j2 k a b e a true c d ((aA b a).f0) ((aA b a).f1) ((aA b a).f2)))) else (none)) else (none)) else (some true)
def aM.j2 : Nat → Int → List (S52) → Int → Int → Bool → List ByteArray → List (S52) → ByteArray → List ByteArray → List ByteArray → Option (Bool)
 | 0, _, _, _, _, _, _, _, _, _, _ => none
 | k + 1, a, d, e, f, g, h, b, i, j, l => if g = true then (some false) else (if 0 ≤ a then (if a ≤ (b.length : Int) then ((some (b.take (a : Int).toNat : List (S52))).bind fun c => (aM.l1 k d e f c (c.length : Int) 0 h b i j l)) else (none)) else (none))
def aM.l1 : Nat → List (S52) → Int → Int → List (S52) → Int → Int → List ByteArray → List (S52) → ByteArray → List ByteArray → List ByteArray → Option (Bool)
 | 0, _, _, _, _, _, _, _, _, _, _, _ => none
 | k + 1, c, d, e, b, g, a, h, i, l, j, m => if a < g then (if 0 ≤ a then (if a < (b.length : Int) then ((mD.f j ((aA b a).f1)).bind fun n => (if n = true then (some false) else (aM.l1 k c d e b g (wrap64 (a + 1)) h i l j m))) else (none)) else (none)) else (aM.l0 k c d (wrap64 (e + 1)) h i)
end
def aM.f (k : Nat) (aZ : List ByteArray) (aI : List (S52)) : Option (Bool) := if (aZ.length : Int) > 8 then (aM.j0 k true aZ aI) else (if (aI.length : Int) > 5 then (aM.j0 k true aZ aI) else ((iC.f k aZ aZ).bind fun a => (if a = true then ((jJ.f aZ).bind fun b => (aM.j0 k b aZ aI)) else (aM.j0 k true aZ aI))))
def aM.T6 : Bool × List (List Nat × List Nat) := (true, [([], []), ([0], [0]), ([1], [1]), ([2], [2]), ([3, 2], [3]), ([4], [4]), ([5, 4], [4, 5]), ([6, 4, 4], [4, 6]), ([7], [7]), ([8, 7], [7, 8]), ([7], [7]), ([10, 7], [7, 10]), ([9, 11, 7], [7, 9, 11]), ([12, 7], [7, 12]), ([13, 7], [7, 13]), ([7], [7]), ([15, 7], [7, 15]), ([14, 16, 7], [7, 14, 16]), ([7, 17, 4], [4, 7, 17]), ([4, 18], [4, 18]), ([19, 7], [19]), ([20], [20]), ([21, 20], [20, 21]), ([20], [20]), ([23, 20], [20, 23]), ([22, 24, 20, 20], [20, 22, 24]), ([25, 20], [20, 25]), ([20, 26], [20, 26]), ([27, 25], [27]), ([28], [28]), ([29, 28], [28, 29]), ([28], [28]), ([31, 28], [28, 31]), ([30, 32, 28, 28], [28, 30, 32]), ([33, 28], [28, 33]), ([28, 34], [28, 34])])
def aM.B6 : List Nat := [0, 1, 3, 7, 15, 31, 63, 127, 255, 511, 255, 1279, 4095, 8191, 16383, 255, 33023, 131071, 262143, 524287, 1048575, 2097151, 4194303, 2097151, 10485759, 33554431, 67108863, 134217727, 268435455, 536870911, 1073741823, 536870911, 2684354559, 8589934591, 17179869183, 34359738367]
theorem aM.tab6 : rtab .any (opsOf Tryz.f14 6) = aM.T6 := by kernel_rfl
theorem aM.DL : o5 aM.T6.2 aM.B6 = true := by kernel_rfl
theorem aM.calls (k : Nat) (eE : Option Addr) (eF : Nat) (aZ : List ByteArray) (eV : Option Addr) (eC : Nat) (aI : List (S52)) (r : Bool) (w : World) (gP : Kd.C Kd.string w eE aZ.length aZ) (gN : aZ.length ≤ eF) (gK : Kd.C k52 w eV aI.length aI) (gO : aI.length ≤ eC) (h : aM.f k aZ aI = some r) :
  Calls Tryz.prog 14 #[.agg #[.slice eE aZ.length eF, .slice eV aI.length eC]] w fun e w' => e = .returned (.bool r) ∧ Below w.heap.size w w' := by
 have hu26 := Tryz.underlying26
 have hu52 := Tryz.underlying52
 obtain ⟨dT, dS⟩ := mZ2 gP gN
 obtain ⟨bV, eS⟩ := mZ2 gK gO
 clear gP gN gK gO
 have HB := am (Below.refl w.heap.size w)
 unfold aM.f at h
 have H := h
 clear h
 have yN := am H
 clear H
 go_enter Tryz.func14, Tryz.ntmps14
 go_upto_region 1 with (first | ((with_reducible refine gD 1 ?_); (try (refine vL (by rfl) ?_; dsimp only)); refine bX 1 #[.slice eE aZ.length eF, .slice eV aI.length eC] 26 ?_; intro aW hg w3 hbox hb; have a6 := am hbox; have iS := am (u4 : w.heap.size ≤ aW); have j5 := iS; replace HB := bS iJ hb; clear hb hbox hg))
 (try simp only [Act.put, List.setIfInBounds_toArray, List.set_cons_zero, List.set_cons_succ])
 go_cut [29] (fun v29 wc => ∃ (kq : Nat) (Uj : Bool), v29 = .bool Uj ∧ aC (aM.j0 kq Uj aZ aI = some r) ∧ aC (kq ≤ k) ∧ aC (wc.heap[aW]? = some (.cells #[(.slice eE aZ.length eF), (.slice eV aI.length eC)] 26 (0, 0))) ∧ aC (Below w.heap.size w wc))
 case first =>
  have H := yN.1
  clear yN
  by_cases c4 : (aZ.length : Int) > 8
  ·rw [if_pos c4] at H
   have CH : decide (8 < (aZ.length : Int)) = true := decide_eq_true c4
   have ly : decide (8 < aZ.length) = true := decide_eq_true (by omega)
   clear c4
   (first | rw [CH] | (simp only [sD, wV]; rw [CH]) | skip)
   have H' := am H
   repeat clear H
   have Z5 := cz2 a6
   go_wp2
   go_meet
   exact ⟨_, (true), dU, H', ⟨by first | omega | exact Nat.le_refl _⟩, ⟨rB a6.1⟩, ⟨fH⟩⟩
  rw [if_neg c4] at H
  have CH : decide (8 < (aZ.length : Int)) = false := decide_eq_false c4
  have ly : decide (8 < aZ.length) = false := decide_eq_false (by omega)
  clear c4
  (first | rw [CH] | (simp only [sD, wV]; rw [CH]) | skip)
  by_cases c6 : (aI.length : Int) > 5
  ·rw [if_pos c6] at H
   have MQ : decide (5 < (aI.length : Int)) = true := decide_eq_true c6
   have En : decide (5 < aI.length) = true := decide_eq_true (by omega)
   clear c6
   have H' := am H
   repeat clear H
   have Z7 := cz2 a6
   go_wp2
   go_meet
   exact ⟨_, (true), dU, H', ⟨by first | omega | exact Nat.le_refl _⟩, ⟨rB a6.1⟩, ⟨fH⟩⟩
  rw [if_neg c6] at H
  have MQ : decide (5 < (aI.length : Int)) = false := decide_eq_false c6
  have En : decide (5 < aI.length) = false := decide_eq_false (by omega)
  clear c6
  obtain ⟨vA, A8, H⟩ := bd H
  refine tC H ?_ ?_ <;> clear H <;> intro c9 H <;> subst c9
  ·obtain ⟨pN, sv, H⟩ := bd H
   have H' := am H
   repeat clear H
   have Uq := cz2 a6
   go_wp2_with (first | (go_at_call 26; refine cM (iC.calls k _ _ aZ _ _ aZ true _ (pB dT) dS.1 (pB dT) dS.1 A8.out) ?_; rintro w' ⟨nd, rfl⟩) | (go_at_call 49; refine cM (jJ.calls _ _ aZ  pN _ ((Kd.aU dT.1 fH)) dS.1 sv.out) ?_; rintro w12 hb; replace a6 := bB d3 hb; replace HB := bS fH hb; clear hb))
   go_meet
   exact ⟨_, (pN), dU, H', ⟨by first | omega | exact Nat.le_refl _⟩, ⟨rB a6.1⟩, ⟨fH⟩⟩
  have H' := am H
  repeat clear H
  have Us := cz2 a6
  go_wp2_with (first | (go_at_call 26; refine cM (iC.calls k _ _ aZ _ _ aZ false _ (pB dT) dS.1 (pB dT) dS.1 A8.out) ?_; rintro w' ⟨nd, rfl⟩))
  go_meet
  exact ⟨_, (true), dU, H', ⟨by first | omega | exact Nat.le_refl _⟩, ⟨rB a6.1⟩, ⟨fH⟩⟩
 clear yN
 obtain ⟨kq, Uj, rfl, HA, HJ1, a6, HB⟩ := hcut
 cases kq with
 | zero => exact absurd HA.out (by simp [aM.j0])
 | succ kj1 =>
  have H := HA.out
  clear HA
  simp only [aM.j0] at H
  refine tC H ?_ ?_ <;> (repeat clear H) <;> intro Dl H <;> subst Dl
  ·obtain rfl := Option.some.inj H
   repeat clear H
   go_wp2
   go_ret
   exact ⟨eR, fH⟩
  ·have H' := am H
   repeat clear H
   have yo := cz2 a6
   go_wp2
   go_loopg [33] kj1 (fun kq v33 w' => ∃ (fG : Int), v33 = .int .i64 fG ∧ aC (aM.l0 kq aI (aI.length : Int) fG aZ aI = some r) ∧ aC (kq ≤ kj1) ∧ aC (w'.heap[aW]? = some (.cells #[(.slice eE aZ.length eF), (.slice eV aI.length eC)] 26 (0, 0))) ∧ aC (Below w.heap.size w w'))
   case atStart => exact ⟨(0), dU, H', ⟨Nat.le_refl _⟩, ⟨rB a6.1⟩, ⟨fH⟩⟩
   case round =>
    clear H'
    try clear Dl
    try clear yo
    obtain ⟨fG, rfl, HA, HK2, a6, HB⟩ := hrel
    cases gk with
    | zero => exact absurd HA.out (by simp [aM.l0])
    | succ k2 =>
     have H := HA.out
     clear HA
     simp only [aM.l0] at H
     refine ic H ?_ ?_ <;> clear H <;> intro GY H
     ·obtain ⟨Ii, H⟩ := cN H
      obtain ⟨I9, H⟩ := cN H
      have ia := am H
      clear H
      obtain ⟨kS, rA, rD, rC, rE, tY, nD, nE, nF, mY, pP, pR, tT, G8, GB⟩ := aT52 bV HB fG
      cases tY
      go_upto_region 6 with (first | ((with_reducible refine gD 4 ?_); (try (refine vL (by rfl) ?_; dsimp only)); refine bX 4 #[.string (⟨#[]⟩ : ByteArray), .slice none 0 0, .slice none 0 0] 52 ?_; intro BC hg Nk hbox hb; have iY := am hbox; have vq := am (EF : w.heap.size ≤ BC); have MF := vq; replace HB := bS fH hb; have vV := nL d3 hg; have OH := nG d3 hg; replace a6 := bB d3 hb; clear hb hbox hg; have yq := nZ1 OH vV; have Z22 := cz3 iY))
      (try simp only [Act.put, List.setIfInBounds_toArray, List.set_cons_zero, List.set_cons_succ])
      go_cut [73] (fun v73 wc => ∃ (kq : Nat) (Gu : Bool), v73 = .bool Gu ∧ aC (aM.j2 kq fG aI (aI.length : Int) fG Gu aZ aI ((aA aI fG).f0) ((aA aI fG).f1) ((aA aI fG).f2) = some r) ∧ aC (kq ≤ k2) ∧ aC (wc.heap[aW]? = some (.cells #[(.slice eE aZ.length eF), (.slice (some kS) aI.length eC)] 26 (0, 0))) ∧ aC (wc.heap[BC]? = some (.cells #[.string ((aA aI fG).f0), (.slice rA ((aA aI fG).f1).length rD), (.slice rC ((aA aI fG).f2).length rE)] 52 (0, 0))) ∧ aC (Below w.heap.size w wc))
      case first =>
       have H := ia.1
       clear ia
       obtain ⟨BO, Gw, H⟩ := bd H
       refine tC H ?_ ?_ <;> clear H <;> intro El H <;> subst El
       ·by_cases bh : fG > 0
        ·rw [if_pos bh] at H
         have VJ : decide (0 < fG) = true := decide_eq_true bh
         clear bh
         (first | rw [VJ] | (simp only [sD, wV]; rw [VJ]) | skip)
         obtain ⟨ji26, hji26⟩ : ∃ j_ : Int, (wrap64 (fG - 1)) = j_ := ⟨_, rfl⟩
         replace H : (if 0 ≤ (ji26) then (if (ji26) < (aI.length : Int) then (if ((Op.bytesLess (((aA aI (ji26)).f0).toList) (((aA aI fG).f0).toList)) = true) then ((iC.f k2 ((aA aI fG).f2) aZ).bind fun QQ => (if QQ = true then ((iC.f k2 ((aA aI fG).f1) ((aA aI fG).f2)).bind fun CY => (aM.j2 k2 fG aI (aI.length : Int) fG (!CY) aZ aI ((aA aI fG).f0) ((aA aI fG).f1) ((aA aI fG).f2))) else (aM.j2 k2 fG aI (aI.length : Int) fG true aZ aI ((aA aI fG).f0) ((aA aI fG).f1) ((aA aI fG).f2)))) else (aM.j2 k2 fG aI (aI.length : Int) fG true aZ aI ((aA aI fG).f0) ((aA aI fG).f1) ((aA aI fG).f2))) else (none)) else (none)) = some r := by first | (rw [hji26] at H; exact H) | (simp only [hji26] at H ⊢; exact H)
         (try rw [hji26] at Gw)
         have hji26w : (IntKind.i64.wrap (fG - 1)) = ji26 := (sD _).trans hji26
         obtain ⟨SW, H⟩ := cN H
         obtain ⟨aK6, H⟩ := cN H
         refine tC H ?_ ?_ <;> clear H <;> intro a07 H
         ·obtain ⟨QQ, uk, H⟩ := bd H
          refine tC H ?_ ?_ <;> clear H <;> intro c31 H <;> subst c31
          ·obtain ⟨CY, sw, H⟩ := bd H
           have H' := am H
           repeat clear H
           try go_wp2
           obtain ⟨w33, eW_⟩ := eW3 Nk BC (.string ((aA aI fG).f0)) (.slice rA ((aA aI fG).f1).length rD) (.slice rC ((aA aI fG).f2).length rE)
           rw [← eW_]
           replace a6 := uF3 eW_ a6 vV
           replace iY := uP3 eW_ iY
           replace HB := uC3 eW_ HB MF
           clear eW_
           replace a6 := BD a6
           replace iY := BD iY
           replace HB := am (aY HB.1)
           obtain ⟨wN, BU, CF, BV, CG, FW, l4, l5, l6, t6, m0, m3, lY, pQ, rU, zP, YQ, YX⟩ := qK bV HB (ji26)
           obtain rfl : kS = wN := (by injection FW)
           refine sT [] 36 (uB3 iY (uB2 a6 (uBx HB l4 (uBx HB l5 (uAx HB l6))))) (fun hHeld => ?_)
           refine fP aM.tab6 aM.DL (fun HT_ HW_ => ?_)
           generalize w33.drew = w34 at a6 iY HB lY rU t6 m0 m3 hHeld ⊢
           refine pU1 0 ?_
           refine tK8 1 (some 39) ?_
           refine oN 2 (some 40) fun K hK => ?_
           refine gQ Tryz.func25 (dX.calls k2 ((aA aI fG).f0) true _ Gw.out) ?_
           rintro w' ⟨nd, rfl⟩
           refine nK hK (uB3 iY (uB2 a6 (uBx HB l4 (uBx HB l5 (uAx HB l6))))).1 fun hHeld => ?_
           clear hK K
           refine pU8 3 4 5 6 7 8 10 11 ?_
           refine pU1 15 ?_
           refine tK8 9 (some 47) ?_
           refine pU2 12 13 ?_
           refine tK8 14 (some 52) ?_
           refine tK8 16 (some 54) ?_
           refine pU6 17 18 19 20 21 23 ?_
           refine tK8 22 (some 60) ?_
           refine tK8 24 (some 62) ?_
           refine oN 25 (some 63) fun K hK => ?_
           refine gQ Tryz.func26 (iC.calls k2 _ _ ((aA aI fG).f2) _ _ aZ true _ ((Kd.aU pR.1 D9)) tT.1 ((Kd.aU dT.1 D9)) dS.1 uk.out) ?_
           rintro w' ⟨nd, rfl⟩
           refine nK hK (uB3 iY (uB2 a6 (uBx HB l4 (uBx HB l5 (uAx HB l6))))).1 fun hHeld => ?_
           clear hK K
           refine pU5 26 27 28 29 31 ?_
           refine tK8 30 (some 68) ?_
           refine tK8 32 (some 70) ?_
           refine oN 33 (some 71) fun K hK => ?_
           refine gQ Tryz.func26 (iC.calls k2 _ _ ((aA aI fG).f1) _ _ ((aA aI fG).f2) CY _ ((Kd.aU mY.1 D9)) pP.1 ((Kd.aU pR.1 D9)) tT.1 sw.out) ?_
           rintro w' ⟨nd, rfl⟩
           refine nK hK (uB3 iY (uB2 a6 (uBx HB l4 (uBx HB l5 (uAx HB l6))))).1 fun hHeld => ?_
           clear hK K
           refine pU2 34 35 ?_
           refine dN ?_
           try go_wp2
           go_meet
           case rel => exact ⟨_, (!CY), dU, H', ⟨by have := HJ1.out; have := HK2.out; first | omega | exact Nat.le_refl _⟩, ⟨rB a6.1⟩, ⟨rB iY.1⟩, ⟨D9⟩⟩
          ·have H' := am H
           repeat clear H
           try go_wp2
           obtain ⟨w35, eW_⟩ := eW3 Nk BC (.string ((aA aI fG).f0)) (.slice rA ((aA aI fG).f1).length rD) (.slice rC ((aA aI fG).f2).length rE)
           rw [← eW_]
           replace a6 := uF3 eW_ a6 vV
           replace iY := uP3 eW_ iY
           replace HB := uC3 eW_ HB MF
           clear eW_
           replace a6 := BD a6
           replace iY := BD iY
           replace HB := am (aY HB.1)
           obtain ⟨wN, BU, CF, BV, CG, FW, l4, l5, l6, t6, m0, m3, lY, pQ, rU, zP, YQ, YX⟩ := qK bV HB (ji26)
           obtain rfl : kS = wN := (by injection FW)
           refine sT [] 36 (uB3 iY (uB2 a6 (uBx HB l4 (uBx HB l5 (uAx HB l6))))) (fun hHeld => ?_)
           refine fP aM.tab6 aM.DL (fun HT_ HW_ => ?_)
           generalize w35.drew = w36 at a6 iY HB lY rU t6 m0 m3 hHeld ⊢
           refine pU1 0 ?_
           refine tK8 1 (some 39) ?_
           refine oN 2 (some 40) fun K hK => ?_
           refine gQ Tryz.func25 (dX.calls k2 ((aA aI fG).f0) true _ Gw.out) ?_
           rintro w' ⟨nd, rfl⟩
           refine nK hK (uB3 iY (uB2 a6 (uBx HB l4 (uBx HB l5 (uAx HB l6))))).1 fun hHeld => ?_
           clear hK K
           refine pU8 3 4 5 6 7 8 10 11 ?_
           refine pU1 15 ?_
           refine tK8 9 (some 47) ?_
           refine pU2 12 13 ?_
           refine tK8 14 (some 52) ?_
           refine tK8 16 (some 54) ?_
           refine pU6 17 18 19 20 21 23 ?_
           refine tK8 22 (some 60) ?_
           refine tK8 24 (some 62) ?_
           refine oN 25 (some 63) fun K hK => ?_
           refine gQ Tryz.func26 (iC.calls k2 _ _ ((aA aI fG).f2) _ _ aZ false _ ((Kd.aU pR.1 D9)) tT.1 ((Kd.aU dT.1 D9)) dS.1 uk.out) ?_
           rintro w' ⟨nd, rfl⟩
           refine nK hK (uB3 iY (uB2 a6 (uBx HB l4 (uBx HB l5 (uAx HB l6))))).1 fun hHeld => ?_
           clear hK K
           refine pU3 26 27 28 ?_
           refine pV6 29 30 31 32 33 34 ?_
           refine pU1 35 ?_
           refine dN ?_
           try go_wp2
           go_meet
           case rel => exact ⟨_, (true), dU, H', ⟨by have := HJ1.out; have := HK2.out; first | omega | exact Nat.le_refl _⟩, ⟨rB a6.1⟩, ⟨rB iY.1⟩, ⟨D9⟩⟩
         ·have H' := am H
          repeat clear H
          try go_wp2
          obtain ⟨w37, eW_⟩ := eW3 Nk BC (.string ((aA aI fG).f0)) (.slice rA ((aA aI fG).f1).length rD) (.slice rC ((aA aI fG).f2).length rE)
          rw [← eW_]
          replace a6 := uF3 eW_ a6 vV
          replace iY := uP3 eW_ iY
          replace HB := uC3 eW_ HB MF
          clear eW_
          replace a6 := BD a6
          replace iY := BD iY
          replace HB := am (aY HB.1)
          obtain ⟨wN, BU, CF, BV, CG, FW, l4, l5, l6, t6, m0, m3, lY, pQ, rU, zP, YQ, YX⟩ := qK bV HB (ji26)
          obtain rfl : kS = wN := (by injection FW)
          refine sT [] 36 (uB3 iY (uB2 a6 (uBx HB l4 (uBx HB l5 (uAx HB l6))))) (fun hHeld => ?_)
          refine fP aM.tab6 aM.DL (fun HT_ HW_ => ?_)
          generalize w37.drew = w38 at a6 iY HB lY rU t6 m0 m3 hHeld ⊢
          refine pU1 0 ?_
          refine tK8 1 (some 39) ?_
          refine oN 2 (some 40) fun K hK => ?_
          refine gQ Tryz.func25 (dX.calls k2 ((aA aI fG).f0) true _ Gw.out) ?_
          rintro w' ⟨nd, rfl⟩
          refine nK hK (uB3 iY (uB2 a6 (uBx HB l4 (uBx HB l5 (uAx HB l6))))).1 fun hHeld => ?_
          clear hK K
          refine pU8 3 4 5 6 7 8 10 11 ?_
          refine pU1 15 ?_
          refine tK8 9 (some 47) ?_
          refine pU2 12 13 ?_
          refine tK8 14 (some 52) ?_
          refine tK8 16 (some 54) ?_
          refine pU4 17 18 19 20 ?_
          refine pV6 21 22 23 24 25 26 ?_
          refine pU2 27 28 ?_
          refine pV6 29 30 31 32 33 34 ?_
          refine pU1 35 ?_
          refine dN ?_
          try go_wp2
          go_meet
          case rel => exact ⟨_, (true), dU, H', ⟨by have := HJ1.out; have := HK2.out; first | omega | exact Nat.le_refl _⟩, ⟨rB a6.1⟩, ⟨rB iY.1⟩, ⟨D9⟩⟩
        ·rw [if_neg bh] at H
         have VJ : decide (0 < fG) = false := decide_eq_false bh
         clear bh
         (first | rw [VJ] | (simp only [sD, wV]; rw [VJ]) | skip)
         obtain ⟨ZB, A39, H⟩ := bd H
         refine tC H ?_ ?_ <;> clear H <;> intro c40 H <;> subst c40
         ·obtain ⟨bZ, A41, H⟩ := bd H
          have H' := am H
          repeat clear H
          try go_wp2
          obtain ⟨w42, eW_⟩ := eW3 Nk BC (.string ((aA aI fG).f0)) (.slice rA ((aA aI fG).f1).length rD) (.slice rC ((aA aI fG).f2).length rE)
          rw [← eW_]
          replace a6 := uF3 eW_ a6 vV
          replace iY := uP3 eW_ iY
          replace HB := uC3 eW_ HB MF
          clear eW_
          replace a6 := BD a6
          replace iY := BD iY
          replace HB := am (aY HB.1)
          refine sT [] 36 (uB3 iY (uA2 a6)) (fun hHeld => ?_)
          refine fP aM.tab6 aM.DL (fun HT_ HW_ => ?_)
          generalize w42.drew = w43 at a6 iY HB hHeld ⊢
          refine pU1 0 ?_
          refine tK5 1 (some 39) ?_
          refine oN 2 (some 40) fun K hK => ?_
          refine gQ Tryz.func25 (dX.calls k2 ((aA aI fG).f0) true _ Gw.out) ?_
          rintro w' ⟨nd, rfl⟩
          refine nK hK (uB3 iY (uA2 a6)).1 fun hHeld => ?_
          clear hK K
          refine pU5 3 4 5 6 7 ?_
          refine pV8 8 9 10 11 12 13 14 15 ?_
          refine pV2 16 17 ?_
          refine pU5 18 19 20 21 23 ?_
          refine tK5 22 (some 60) ?_
          refine tK5 24 (some 62) ?_
          refine oN 25 (some 63) fun K hK => ?_
          refine gQ Tryz.func26 (iC.calls k2 _ _ ((aA aI fG).f2) _ _ aZ true _ ((Kd.aU pR.1 D9)) tT.1 ((Kd.aU dT.1 D9)) dS.1 A39.out) ?_
          rintro w' ⟨nd, rfl⟩
          refine nK hK (uB3 iY (uA2 a6)).1 fun hHeld => ?_
          clear hK K
          refine pU5 26 27 28 29 31 ?_
          refine tK5 30 (some 68) ?_
          refine tK5 32 (some 70) ?_
          refine oN 33 (some 71) fun K hK => ?_
          refine gQ Tryz.func26 (iC.calls k2 _ _ ((aA aI fG).f1) _ _ ((aA aI fG).f2) bZ _ ((Kd.aU mY.1 D9)) pP.1 ((Kd.aU pR.1 D9)) tT.1 A41.out) ?_
          rintro w' ⟨nd, rfl⟩
          refine nK hK (uB3 iY (uA2 a6)).1 fun hHeld => ?_
          clear hK K
          refine pU2 34 35 ?_
          refine dN ?_
          try go_wp2
          go_meet
          case rel => exact ⟨_, (!bZ), dU, H', ⟨by have := HJ1.out; have := HK2.out; first | omega | exact Nat.le_refl _⟩, ⟨rB a6.1⟩, ⟨rB iY.1⟩, ⟨D9⟩⟩
         ·have H' := am H
          repeat clear H
          try go_wp2
          obtain ⟨ZK, eW_⟩ := eW3 Nk BC (.string ((aA aI fG).f0)) (.slice rA ((aA aI fG).f1).length rD) (.slice rC ((aA aI fG).f2).length rE)
          rw [← eW_]
          replace a6 := uF3 eW_ a6 vV
          replace iY := uP3 eW_ iY
          replace HB := uC3 eW_ HB MF
          clear eW_
          replace a6 := BD a6
          replace iY := BD iY
          replace HB := am (aY HB.1)
          refine sT [] 36 (uB3 iY (uA2 a6)) (fun hHeld => ?_)
          refine fP aM.tab6 aM.DL (fun HT_ HW_ => ?_)
          generalize ZK.drew = w45 at a6 iY HB hHeld ⊢
          refine pU1 0 ?_
          refine tK5 1 (some 39) ?_
          refine oN 2 (some 40) fun K hK => ?_
          refine gQ Tryz.func25 (dX.calls k2 ((aA aI fG).f0) true _ Gw.out) ?_
          rintro w' ⟨nd, rfl⟩
          refine nK hK (uB3 iY (uA2 a6)).1 fun hHeld => ?_
          clear hK K
          refine pU5 3 4 5 6 7 ?_
          refine pV8 8 9 10 11 12 13 14 15 ?_
          refine pV2 16 17 ?_
          refine pU5 18 19 20 21 23 ?_
          refine tK5 22 (some 60) ?_
          refine tK5 24 (some 62) ?_
          refine oN 25 (some 63) fun K hK => ?_
          refine gQ Tryz.func26 (iC.calls k2 _ _ ((aA aI fG).f2) _ _ aZ false _ ((Kd.aU pR.1 D9)) tT.1 ((Kd.aU dT.1 D9)) dS.1 A39.out) ?_
          rintro w' ⟨nd, rfl⟩
          refine nK hK (uB3 iY (uA2 a6)).1 fun hHeld => ?_
          clear hK K
          refine pU3 26 27 28 ?_
          refine pV6 29 30 31 32 33 34 ?_
          refine pU1 35 ?_
          refine dN ?_
          try go_wp2
          go_meet
          case rel => exact ⟨_, (true), dU, H', ⟨by have := HJ1.out; have := HK2.out; first | omega | exact Nat.le_refl _⟩, ⟨rB a6.1⟩, ⟨rB iY.1⟩, ⟨D9⟩⟩
       ·have H' := am H
        repeat clear H
        try go_wp2
        obtain ⟨w46, eW_⟩ := eW3 Nk BC (.string ((aA aI fG).f0)) (.slice rA ((aA aI fG).f1).length rD) (.slice rC ((aA aI fG).f2).length rE)
        rw [← eW_]
        replace a6 := uF3 eW_ a6 vV
        replace iY := uP3 eW_ iY
        replace HB := uC3 eW_ HB MF
        clear eW_
        replace a6 := BD a6
        replace iY := BD iY
        replace HB := am (aY HB.1)
        refine sT [] 36 (uA3 iY) (fun hHeld => ?_)
        refine fP aM.tab6 aM.DL (fun HT_ HW_ => ?_)
        generalize w46.drew = w47 at a6 iY HB hHeld ⊢
        refine pU1 0 ?_
        refine tK3 1 (some 39) ?_
        refine oN 2 (some 40) fun K hK => ?_
        refine gQ Tryz.func25 (dX.calls k2 ((aA aI fG).f0) false _ Gw.out) ?_
        rintro w' ⟨nd, rfl⟩
        refine nK hK (uA3 iY).1 fun hHeld => ?_
        clear hK K
        refine pU2 3 4 ?_
        refine pV8 5 6 7 8 9 10 11 12 ?_
        refine pV6 13 14 15 16 17 18 ?_
        refine pU2 19 20 ?_
        refine pV6 21 22 23 24 25 26 ?_
        refine pU2 27 28 ?_
        refine pV6 29 30 31 32 33 34 ?_
        refine pU1 35 ?_
        refine dN ?_
        try go_wp2
        go_meet
        case rel => exact ⟨_, (true), dU, H', ⟨by have := HJ1.out; have := HK2.out; first | omega | exact Nat.le_refl _⟩, ⟨rB a6.1⟩, ⟨rB iY.1⟩, ⟨D9⟩⟩
      case rest =>
       clear ia
       obtain ⟨kq, Gu, rfl, HA, Vm, a6, iY, HB⟩ := hcut
       cases kq with
       | zero => exact absurd HA.out (by simp [aM.j2])
       | succ kj18 =>
        have H := HA.out
        clear HA
        simp only [aM.j2] at H
        refine tC H ?_ ?_ <;> (repeat clear H) <;> intro c48 H <;> subst c48
        ·obtain rfl := Option.some.inj H
         repeat clear H
         go_wp2
         go_ret
         exact ⟨eR, D9⟩
        ·obtain ⟨Am, Ij, H⟩ := cP H
         obtain ⟨bp, a0D, H⟩ := cP H
         obtain ⟨GP, ZX, H⟩ := bY H
         have H' := am H
         repeat clear H
         have Z51 := nZ1 vV OH
         have Z52 := cz2 a6
         have q53 : (fG : Int) ≤ ((aI.length : Int) : Int) := oT
         obtain ⟨i053, dr, _, hsz53, _⟩ := info_parts tZ
         have hroom53 : aI.length ≤ eC := eS.1
         have hC53 : Kd.C k52 _ (some kS) aI.length aI := bV.1
         have hcut53 := XO (P := Tryz.prog) 24 52 .i64 Tryz.underlying24 dr (some kS) aI.length eC fG (oT) q53 hroom53
         have po := Kd.Ny (m := (fG : Int).toNat) hC53 (by omega)
         have hy53 : GP.length = (fG : Int).toNat := (by rw [ZX.out, List.length_take]; omega)
         rw [← ZX.out] at po
         rw [← hy53] at hcut53
         have Zw := am po
         have aGV := am (show GP.length ≤ eC from by omega)
         clear po hC53 hroom53 dr hsz53
         have KY53 := am hy53
         clear hy53
         replace q53 := eq_true q53
         go_wp2
         go_loopg [79] kj18 (fun kq v79 w' => ∃ (AD : Int), v79 = .int .i64 AD ∧ aC (aM.l1 kq aI (aI.length : Int) fG GP (GP.length : Int) AD aZ aI ((aA aI fG).f0) ((aA aI fG).f1) ((aA aI fG).f2) = some r) ∧ aC (kq ≤ kj18) ∧ aC (w'.heap[aW]? = some (.cells #[(.slice eE aZ.length eF), (.slice (some kS) aI.length eC)] 26 (0, 0))) ∧ aC (w'.heap[BC]? = some (.cells #[.string ((aA aI fG).f0), (.slice rA ((aA aI fG).f1).length rD), (.slice rC ((aA aI fG).f2).length rE)] 52 (0, 0))) ∧ aC (Below w.heap.size w w'))
         case atStart => exact ⟨(0), dU, H', ⟨Nat.le_refl _⟩, ⟨rB a6.1⟩, ⟨rB iY.1⟩, ⟨D9⟩⟩
         case round =>
          clear H'
          try clear c48
          try clear Am
          try clear Ij
          try clear bp
          try clear a0D
          try clear q53 q53
          try clear Z52
          obtain ⟨AD, rfl, HA, HK4, a6, iY, HB⟩ := hrel
          cases gk with
          | zero => exact absurd HA.out (by simp [aM.l1])
          | succ k4 =>
           have H := HA.out
           clear HA
           simp only [aM.l1] at H
           refine ic H ?_ ?_ <;> clear H <;> intro aKG H
           obtain ⟨aKH, H⟩ := cN H
           obtain ⟨a0F, H⟩ := cN H
           obtain ⟨yK, A57, H⟩ := bd H
           refine tC H ?_ ?_ <;> clear H <;> intro c58 H <;> subst c58
           obtain rfl := Option.some.inj H
           repeat clear H
           obtain ⟨Px, WL, XD, Dm, Ek, mr, Xi, Xj, Xk, WZ, WV, Vq, Vi, aEP, aF2⟩ := aT52 Zw HB AD
           obtain rfl : kS = Px := (by injection mr)
           have jc := trivial
           have xb := trivial
           rotate_left
           have H' := am H
           repeat clear H
           obtain ⟨Px, WL, XD, Dm, Ek, mr, Xi, Xj, Xk, WZ, WV, Vq, Vi, aEP, aF2⟩ := aT52 Zw HB AD
           obtain rfl : kS = Px := (by injection mr)
           have jc := trivial
           have xc := trivial
           rotate_left
           have H' := am H
           repeat clear H
           rotate_left
           all_goals
            go_wp2_with (first | ((with_reducible refine gD 6 ?_); revert jc; intro jc; (try (refine vL (by rfl) ?_; dsimp only)); refine bX 6 #[.string (⟨#[]⟩ : ByteArray), .slice none 0 0, .slice none 0 0] 52 ?_; intro Bb hg aNV hbox hb; have Gz := am hbox; have vu := am (aEY : w.heap.size ≤ Bb); have vm := vu; replace HB := bS D9 hb; have OC := nL d3 hg; have Kq := nG d3 hg; replace a6 := bB d3 hb; have OI := am (by rw [hg]; exact Nat.ne_of_lt (fO (g := BC) (o := .cells #[.string ((aA aI fG).f0), .slice rA ((aA aI fG).f1).length rD, .slice rC ((aA aI fG).f2).length rE] 52 (0, 0)) (rB iY.1)) : BC ≠ Bb); have Kr := am (by rw [hg]; exact Nat.ne_of_gt (fO (g := BC) (o := .cells #[.string ((aA aI fG).f0), .slice rA ((aA aI fG).f1).length rD, .slice rC ((aA aI fG).f2).length rE] 52 (0, 0)) (rB iY.1)) : Bb ≠ BC); replace iY := am (aX (g := BC) (o := .cells #[.string ((aA aI fG).f0), .slice rA ((aA aI fG).f1).length rD, .slice rC ((aA aI fG).f2).length rE] 52 (0, 0)) (rB iY.1) hb); clear hb hbox hg; have aHB := nZ2 Kq OC Kr OI; have aHC := cz3 Gz; have aHD := nZ1 OH vV; have aHE := cz3 iY) | ((with_reducible refine gC 37 ?_); revert xb; intro xb; refine cQ (some 87) Tryz.func37 (mD.calls _ _ ((aA aI fG).f1) _ _ ((aA GP AD).f1) true _ (Kd.aU mY.1 Cq) pP.1 (Kd.aU WZ.1 Cq) WV.1 A57.out) ?_; rintro aNW hb; replace a6 := am (aX (g := aW) (o := .cells #[.slice eE aZ.length eF, .slice (some kS) aI.length eC] 26 (0, 0)) (qF a6 OC) hb); replace iY := am (aX (g := BC) (o := .cells #[.string ((aA aI fG).f0), .slice rA ((aA aI fG).f1).length rD, .slice rC ((aA aI fG).f2).length rE] 52 (0, 0)) (qF iY OI) hb); replace Gz := am (aX (g := Bb) (o := .cells #[.string ((aA GP AD).f0), .slice WL ((aA GP AD).f1).length XD, .slice Dm ((aA GP AD).f2).length Ek] 52 (0, 0)) pY0 hb); replace HB := bS Cq hb; clear hb) | ((with_reducible refine gC 37 ?_); revert xc; intro xc; refine cQ (some 87) Tryz.func37 (mD.calls _ _ ((aA aI fG).f1) _ _ ((aA GP AD).f1) false _ (Kd.aU mY.1 Cq) pP.1 (Kd.aU WZ.1 Cq) WV.1 A57.out) ?_; rintro aNX hb; replace a6 := am (aX (g := aW) (o := .cells #[.slice eE aZ.length eF, .slice (some kS) aI.length eC] 26 (0, 0)) (qF a6 OC) hb); replace iY := am (aX (g := BC) (o := .cells #[.string ((aA aI fG).f0), .slice rA ((aA aI fG).f1).length rD, .slice rC ((aA aI fG).f2).length rE] 52 (0, 0)) (qF iY OI) hb); replace Gz := am (aX (g := Bb) (o := .cells #[.string ((aA GP AD).f0), .slice WL ((aA GP AD).f1).length XD, .slice Dm ((aA GP AD).f2).length Ek] 52 (0, 0)) pY0 hb); replace HB := bS Cq hb; clear hb))
           ·go_ret
            exact ⟨eR, Cq⟩
           ·go_roundg k4
            case measure => have := HJ1.out; have := HK2.out; have := Vm.out; have := HK4.out; omega
            case rel => exact ⟨(wrap64 (AD + 1)), dU, H', ⟨by have := HJ1.out; have := HK2.out; have := Vm.out; have := HK4.out; omega⟩, ⟨rB a6.1⟩, ⟨rB iY.1⟩, ⟨Cq⟩⟩
           ·go_roundg k4
            case measure => have := HJ1.out; have := HK2.out; have := Vm.out; have := HK4.out; omega
            case rel => exact ⟨(wrap64 (fG + 1)), dU, H', ⟨by have := HJ1.out; have := HK2.out; have := Vm.out; have := HK4.out; omega⟩, ⟨rB a6.1⟩, ⟨D9⟩⟩
     ·obtain rfl := Option.some.inj H
      repeat clear H
      go_wp2
      go_ret
      exact ⟨eR, fH⟩
end Go.Proofs.YtaofjgnhapnndaaGreat.Q
