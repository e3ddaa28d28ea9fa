/- Texts that the row needs: words on memory and rows, the contracts of the functions it reaches, and the plain lemmas on what they compute. -/
import Derived.Shelf.Strconv.Itoa3
import Derived.Shelf.Bodies
import Derived.Ground.NamesProg
import Derived.Test.YtaofjgnhapnndaaGreatDoorXksae
set_option maxHeartbeats 8000000
set_option maxRecDepth 100000
open Go.Proofs.YtaofjgnhapnndaaGreatDoorFks
namespace Go.Proofs.YtaofjgnhapnndaaGreatDoor.Q
open Go.RowKit Go.Proofs.YtaofjgnhapnndaaGreatDoorW.PrintWords Go.Proofs.YtaofjgnhapnndaaGreatDoorW.PrintLast Go.Proofs.YtaofjgnhapnndaaGreatDoorW.PrintMore
set_option linter.unusedVariables false
set_option linter.unusedSimpArgs false
open Go.Shelf Go.Lib
def j4 : Go.Shelf.Ren :=
{
  f := fun x =>
    match x with
    | 171 => 70
    | 243 => 91
    | 246 => 108
    | 283 => 133
    | 284 => 134
    | 285 => 135
    | 286 => 136
    | 129 => 119
    | 317 => 153
    | 318 => 154
    | 319 => 155
    | 320 => 156
    | 337 => 164
    | 338 => 165
    | n => n,
  t := fun x =>
    match x with
    | 3 => 3
    | 9 => 9
    | 2 => 2
    | 4 => 4
    | 171 => 144
    | 0 => 0
    | 53 => 127
    | 37 => 24
    | 5 => 5
    | 173 => 146
    | 212 => 165
    | 51 => 125
    | 20 => 20
    | 213 => 166
    | 46 => 107
    | 232 => 176
    | 233 => 177
    | n => n,
  g := fun x =>
    match x with
    | 17 => 3
    | 18 => 4
    | 19 => 5
    | n => n }
theorem Jr : Go.Proofs.Lays.n171 Tryz.prog j4 :=
{ mixed := Eq.refl true, f129 := Eq.trans Tryz.func119 (congrArg some (Eq.refl (Body.n129 j4))),
  f171 := Eq.trans Tryz.func70 (congrArg some (Eq.refl (Body.n171 j4))),
  f243 := Eq.trans Tryz.func91 (congrArg some (Eq.refl (Body.n243 j4))),
  f246 := Eq.trans Tryz.func108 (congrArg some (Eq.refl (Body.n246 j4))),
  f283 := Eq.trans Tryz.func133 (congrArg some (Eq.refl (Body.n283 j4))),
  f284 := Eq.trans Tryz.func134 (congrArg some (Eq.refl (Body.n284 j4))),
  f285 := Eq.trans Tryz.func135 (congrArg some (Eq.refl (Body.n285 j4))),
  f286 := Eq.trans Tryz.func136 (congrArg some (Eq.refl (Body.n286 j4))),
  f317 := Eq.trans Tryz.func153 (congrArg some (Eq.refl (Body.n317 j4))),
  f318 := Eq.trans Tryz.func154 (congrArg some (Eq.refl (Body.n318 j4))),
  f319 := Eq.trans Tryz.func155 (congrArg some (Eq.refl (Body.n319 j4))),
  f320 := Eq.trans Tryz.func156 (congrArg some (Eq.refl (Body.n320 j4))),
  f337 := Eq.trans Tryz.func164 (congrArg some (Eq.refl (Body.n337 j4))),
  f338 := Eq.trans Tryz.func165 (congrArg some (Eq.refl (Body.n338 j4))), t0 := Tryz.underlying0,
  a0 := Tryz.isAgg0, z0 := Tryz.sizeOf0, v0 := Tryz.zeroValue0, t2 := Tryz.underlying2, a2 := Tryz.isAgg2,
  z2 := Tryz.sizeOf2, v2 := Tryz.zeroValue2, t3 := Tryz.underlying3, a3 := Tryz.isAgg3, z3 := Tryz.sizeOf3,
  v3 := Tryz.zeroValue3, t4 := Tryz.underlying4, a4 := Tryz.isAgg4, z4 := Tryz.sizeOf4, v4 := Tryz.zeroValue4,
  t5 := Tryz.underlying5, a5 := Tryz.isAgg5, z5 := Tryz.sizeOf5, v5 := Tryz.zeroValue5, t9 := Tryz.underlying9,
  a9 := Tryz.isAgg9, z9 := Tryz.sizeOf9, v9 := Tryz.zeroValue9, t20 := Tryz.underlying20, a20 := Tryz.isAgg20,
  z20 := Tryz.sizeOf20, v20 := Tryz.zeroValue20, t37 := Tryz.underlying24, a37 := Tryz.isAgg24, z37 := Tryz.sizeOf24,
  v37 := Tryz.zeroValue24, t46 := Tryz.underlying107, a46 := Tryz.isAgg107, z46 := Tryz.sizeOf107,
  v46 := Tryz.zeroValue107, t51 := Tryz.underlying125, a51 := Tryz.isAgg125, z51 := Tryz.sizeOf125,
  v51 := Tryz.zeroValue125, t53 := Tryz.underlying127, a53 := Tryz.isAgg127, z53 := Tryz.sizeOf127,
  v53 := Tryz.zeroValue127, t171 := Tryz.underlying144, a171 := Tryz.isAgg144, z171 := Tryz.sizeOf144,
  v171 := Tryz.zeroValue144, t173 := Tryz.underlying146, a173 := Tryz.isAgg146, z173 := Tryz.sizeOf146,
  v173 := Tryz.zeroValue146, t212 := Tryz.underlying165, a212 := Tryz.isAgg165, z212 := Tryz.sizeOf165,
  v212 := Tryz.zeroValue165, t213 := Tryz.underlying166, a213 := Tryz.isAgg166, z213 := Tryz.sizeOf166,
  t232 := Tryz.underlying176, a232 := Tryz.isAgg176, z232 := Tryz.sizeOf176, v232 := Tryz.zeroValue176,
  t233 := Tryz.underlying177, a233 := Tryz.isAgg177, z233 := Tryz.sizeOf177, v233 := Tryz.zeroValue177,
  g17 := (by kernel_rfl), g18 := (by kernel_rfl),
  g19 := (by kernel_rfl) }
def strconv_Itoa.f (a0 : Int) : Option ByteArray := if 0 ≤ a0 ∧ a0 < 100 then some ⟨(Lib.decDigits a0.toNat).toArray⟩ else none
theorem strconv_Itoa.calls (a0 : Int) (r : ByteArray) (w : World) (h : strconv_Itoa.f a0 = some r) :
  Calls Tryz.prog 70 #[.int .i64 a0] w fun e w' => e = .returned (.string r) ∧ jA w w' := by
 unfold strconv_Itoa.f at h
 split at h
 ·rename_i hc
  obtain rfl := Option.some.inj h
  have c := Any.strconv_Itoa_small Jr a0.toNat (by omega) w
  change Calls Tryz.prog 70 _ _ _ at c
  rw [show ((a0.toNat : Nat) : Int) = a0 from by omega] at c
  refine c.mono ?_
  rintro e w' ⟨rfl, rfl⟩
  exact ⟨rfl, jA.refl _⟩
 cases h
def nR (c : Int) : ByteArray := (⟨#[99, 111, 100, 101, 32]⟩ : ByteArray) ++ ⟨(Lib.decDigits c.toNat).toArray⟩
def Came (w w' : World) (g : Nat) (c : Int) (cs : Array Value) : Prop := (c = 0 ∧ w'.heap[g]? = some (.cells cs 37 (0, 0)) ∧ Kept w w' (fun k => k = g) ∧ Below g w w') ∨ (c ≠ 0 ∧ Below w.heap.size w w')
set_option maxHeartbeats 4000000 in
theorem BA {g n0 k0 n1 k1 m0 d0 m1 d1 : Nat} {a0 a1 b0 b1 : Option Addr} {c : Int} (hc : 0 ≤ c ∧ c < 10) {w : World} (hg : w.heap[g]? = some (.cells #[.slice a0 n0 k0, .slice a1 n1 k1] 37 (0, 0))) :
    Calls Tryz.prog 37 #[.pointer (some ⟨g, 0, none⟩), .agg #[.slice b0 m0 d0, .slice b1 m1 d1], .int .i64 c] w fun e w' => e = .returned (.string (nR c)) ∧ Came w w' g c #[.slice b0 m0 d0, .slice b1 m1 d1] := by
 have hu := Tryz.underlying31
 have hu2 := Tryz.underlying37
 have HF := am (show strconv_Itoa.f c = some ⟨(Lib.decDigits c.toNat).toArray⟩ from if_pos ⟨hc.1, by omega⟩)
 have HD : (⟨(Lib.decDigits c.toNat).toArray⟩ : ByteArray).size = 1 := by rw [Lib.decDigits_one (by omega)]; rfl
 have HG := am hg
 clear hg hc
 by_cases nE : c = 0
 ·have q1 : (c == 0) = true := beq_iff_eq.mpr nE
  have q2 : decide (c = 0) = true := decide_eq_true nE
  have HC := am nE
  clear nE
  unfold nR
  generalize (⟨(Lib.decDigits c.toNat).toArray⟩ : ByteArray) = dg at HF HD ⊢
  have q3 : (9223372036854775807 < 5 + dg.size) = False := eq_false (by omega)
  clear HD
  go_enter Tryz.func37, Tryz.ntmps37
  go_wp2_with (first
    | ((with_reducible refine dF (N := 4) rfl ?_); (refine dX ?hg (N := 4) ?hd (cs := #[.slice b0 m0 d0, .slice b1 m1 d1]) (t := 31) ?hr ?_; (case hd => rfl); (case hg => rfl); (case hr => first | (go_simp; done) | (go_simp; rfl)); intro gb hgb w4 hbox hb; have hne : g ≠ gb := (by have := dU HG.out; omega); have hg4 := aV HG.out hb; have z0 : w4.cell? ⟨gb, 0, none⟩ = some (.slice b0 m0 d0) := (aH hbox 0).trans rfl; have z1 : w4.cell? ⟨gb, 1, none⟩ = some (.slice b1 m1 d1) := (aH hbox 1).trans rfl; have y0 : w4.cell? ⟨g, 0, none⟩ = some (.slice a0 n0 k0) := (aH hg4 0).trans rfl; have y1 : w4.cell? ⟨g, 1, none⟩ = some (.slice a1 n1 k1) := (aH hg4 1).trans rfl; have f0 := bL hg4 0; have f1 := bL hg4 1; have HG4 := am hg4; have HK4 := am hb; clear hg4 hb hgb hbox))
    | (go_at_call 70; refine (strconv_Itoa.calls c _ _ HF.out).mono ?_; rintro e w5 ⟨rfl, hd⟩))
  go_ret
  obtain ⟨nd, rfl⟩ := hd.out
  have kk := Kept.noth HK4.out
  refine ⟨rfl, .inl ⟨HC.out, ?_, ?_, ?_⟩⟩
  ·exact dJ (bD (cs := #[.slice b0 m0 d0, .slice a1 n1 k1]) (bD (cs := #[.slice a0 n0 k0, .slice a1 n1 k1]) HG4.out 0 _ rfl) 1 _ rfl) nd
  ·have k1_ : Kept w w4 (fun k => k = g) := Kept.mono kk (fun _ h => h.elim)
   exact Kept.drewN (Kept.setCell (p := ⟨g, 1, none⟩) (Kept.setCell (p := ⟨g, 0, none⟩) k1_ (.inl rfl) _) (.inl rfl) _) nd
  have k2_ : Below g w w4 := HK4.out.mono (Nat.le_of_lt (dU HG.out))
  exact bK ((k2_.setCell (p := ⟨g, 0, none⟩) (Nat.le_refl _) _).setCell (p := ⟨g, 1, none⟩) (Nat.le_refl _) _) nd
 have q1 : (c == 0) = false := beq_eq_false_iff_ne.mpr nE
 have q2 : decide (c = 0) = false := decide_eq_false nE
 have HC := am nE
 clear nE
 unfold nR
 generalize (⟨(Lib.decDigits c.toNat).toArray⟩ : ByteArray) = dg at HF HD ⊢
 have q3 : (9223372036854775807 < 5 + dg.size) = False := eq_false (by omega)
 clear HD
 go_enter Tryz.func37, Tryz.ntmps37
 go_wp2_with (first
   | ((with_reducible refine dF (N := 4) rfl ?_); (refine dX ?hg (N := 4) ?hd (cs := #[.slice b0 m0 d0, .slice b1 m1 d1]) (t := 31) ?hr ?_; (case hd => rfl); (case hg => rfl); (case hr => first | (go_simp; done) | (go_simp; rfl)); intro gb hgb w4 hbox hb; have HG4 := am (aV HG.out hb); have HK4 := am hb; clear hb hgb hbox))
   | (go_at_call 70; refine (strconv_Itoa.calls c _ _ HF.out).mono ?_; rintro e w5 ⟨rfl, hd⟩))
 go_ret
 obtain ⟨nd, rfl⟩ := hd.out
 exact ⟨rfl, .inr ⟨HC.out, bK HK4.out nd⟩⟩
abbrev IB := S66
def gB (l : List IB) (i : Nat) : IB := l.getD i z66
theorem gF (l : List IB) (i : Nat) : aA l (i : Int) = gB l i := by unfold aA gB; rw [Int.toNat_natCast]
theorem getD_lt {α : Type} (l : List α) (z : α) {i : Nat} (h : i < l.length) : l.getD i z = l[i] := by rw [List.getD_eq_getElem?_getD, List.getElem?_eq_getElem h]; rfl
def kM (l : List IB) : Nat := (l.map fun b => 1 + b.f1.length + b.f2.length).sum
theorem xX (b : IB) (r : List IB) : kM (b :: r) = 1 + b.f1.length + b.f2.length + kM r := by simp [kM]
theorem Ev.pos {α : Type} {c : Prop} [Decidable c] {a b : Nat → Option α} {r : α} (h : c) (H : Ev a r) : Ev (fun k => if c then a k else b k) r := by
 obtain ⟨K, hK⟩ := H
 exact ⟨K, fun k hk => by simp only [if_pos h]; exact hK k hk⟩
theorem Ev.neg {α : Type} {c : Prop} [Decidable c] {a b : Nat → Option α} {r : α} (h : ¬ c) (H : Ev b r) : Ev (fun k => if c then a k else b k) r := by
 obtain ⟨K, hK⟩ := H
 exact ⟨K, fun k hk => by simp only [if_neg h]; exact hK k hk⟩
theorem Ev.ret {α : Type} {r s : α} (h : r = s) : Ev (fun _ => some r) s := ⟨0, fun _ _ => by rw [h]⟩
theorem Ev.sub {α : Type} {g : Nat → Option α} {r s : α} (H : Ev g r) (h : r = s) : Ev g s := h ▸ H
theorem Ev.test {α : Type} {a b : Nat → Option α} {r : α} (t : Bool) (H1 : t = true → Ev a r) (H2 : t = false → Ev b r) : Ev (fun k => if t = true then a k else b k) r := by
 cases t with
 | true => exact Ev.pos rfl (H1 rfl)
 | false => exact Ev.neg (by simp) (H2 rfl)
theorem Ev.prop {α : Type} {c : Prop} [Decidable c] {a b : Nat → Option α} {r : α} (H1 : c → Ev a r) (H2 : ¬ c → Ev b r) : Ev (fun k => if c then a k else b k) r := by
 by_cases h : c
 ·exact Ev.pos h (H1 h)
 exact Ev.neg h (H2 h)
theorem Ev.loop {α : Type} {f : Nat → Nat → Option α} {val : Nat → α} (n : Nat) (hend : Ev (fun k => f k n) (val n))
    (hstep : ∀ i, i < n → Ev (fun k => f k (i + 1)) (val (i + 1)) → Ev (fun k => f k i) (val i)) : ∀ i, i ≤ n → Ev (fun k => f k i) (val i) := by
 intro i hi
 obtain ⟨d, hd⟩ : ∃ d, n - i = d := ⟨_, rfl⟩
 induction d generalizing i with
 | zero => have : i = n := by omega
           subst this; exact hend
 | succ d ih => exact hstep i (by omega) (ih (i + 1) (by omega) (by omega))
def allR (P : Nat → Bool) (n i : Nat) : Bool := (List.range' i (n - i)).all P
def anyR (P : Nat → Bool) (n i : Nat) : Bool := (List.range' i (n - i)).any P
theorem vP (P : Nat → Bool) (n : Nat) : allR P n n = true := by simp [allR]
theorem NQ (P : Nat → Bool) (n : Nat) : anyR P n n = false := by simp [anyR]
theorem uW (P : Nat → Bool) {n i : Nat} (h : i < n) : allR P n i = (P i && allR P n (i + 1)) := by
 unfold allR; rw [show n - i = (n - (i + 1)) + 1 by omega, List.range'_succ, List.all_cons]
theorem JW (P : Nat → Bool) {n i : Nat} (h : i < n) : anyR P n i = (P i || anyR P n (i + 1)) := by
 unfold anyR; rw [show n - i = (n - (i + 1)) + 1 by omega, List.range'_succ, List.any_cons]
theorem pO (P : Nat → Bool) (n i : Nat) : allR P n i = true ↔ ∀ j, i ≤ j → j < n → P j = true := by
 unfold allR; rw [List.all_eq_true]
 constructor
 ·intro h j h1 h2; exact h j (by rw [List.mem_range'_1]; omega)
 intro h j hj; rw [List.mem_range'_1] at hj; exact h j (by omega) (by omega)
theorem VF (P : Nat → Bool) (n i : Nat) : anyR P n i = true ↔ ∃ j, i ≤ j ∧ j < n ∧ P j = true := by
 unfold anyR; rw [List.any_eq_true]
 constructor
 ·rintro ⟨j, hj, h⟩; rw [List.mem_range'_1] at hj; exact ⟨j, by omega, by omega, h⟩
 rintro ⟨j, h1, h2, h⟩; exact ⟨j, by rw [List.mem_range'_1]; omega, h⟩
theorem Ev.MW {f : Nat → Nat → Option Bool} {P : Nat → Bool} (n : Nat) (hend : Ev (fun k => f k n) true)
    (hyes : ∀ i r, i < n → P i = true → Ev (fun k => f k (i + 1)) r → Ev (fun k => f k i) r) (hno : ∀ i, i < n → P i = false → Ev (fun k => f k i) false) : ∀ i, i ≤ n → Ev (fun k => f k i) (allR P n i) :=
  Ev.loop (val := allR P n) n (by rw [vP]; exact hend) fun i hi H => by
    rw [uW P hi]
    cases h : P i with
    | true => exact hyes i _ hi h H
    | false => exact hno i hi h
theorem Ev.Cb {f : Nat → Nat → Option Bool} {P : Nat → Bool} (n : Nat) (hend : Ev (fun k => f k n) false)
    (hno : ∀ i r, i < n → P i = false → Ev (fun k => f k (i + 1)) r → Ev (fun k => f k i) r) (hyes : ∀ i, i < n → P i = true → Ev (fun k => f k i) true) : ∀ i, i ≤ n → Ev (fun k => f k i) (anyR P n i) :=
  Ev.loop (val := anyR P n) n (by rw [NQ]; exact hend) fun i hi H => by
    rw [JW P hi]
    cases h : P i with
    | false => exact hno i _ hi h H
    | true => exact hyes i hi h
theorem QT {α : Type} (p : α → Bool) (z : α) (l : List α) : anyR (fun j => p (l.getD j z)) l.length 0 = l.any p := by
 rw [Bool.eq_iff_iff, VF, List.any_eq_true]
 constructor
 ·rintro ⟨j, _, h, hp⟩; exact ⟨l.getD j z, by rw [List.getD_eq_getElem?_getD, List.getElem?_eq_getElem h]; exact List.getElem_mem h, hp⟩
 rintro ⟨x, hx, hp⟩; obtain ⟨j, h, rfl⟩ := List.getElem_of_mem hx; exact ⟨j, by omega, h, by rw [List.getD_eq_getElem?_getD, List.getElem?_eq_getElem h]; exact hp⟩
theorem Eh {α : Type} (d : α) (l : List α) (i : Nat) : rdOf d l (i : Int) = l.getD i d := by
 unfold rdOf; rw [Int.toNat_natCast]
theorem iQ {i n : Nat} (h : i < n) (hn : n ≤ 9223372036854775807) : wrap64 ((i : Int) + 1) = ((i + 1 : Nat) : Int) := by
 unfold wrap64; omega
theorem RV {i : Nat} (h : 0 < i) (hn : i ≤ 9223372036854775807) : wrap64 ((i : Int) - 1) = ((i - 1 : Nat) : Int) := by
 unfold wrap64; omega
theorem toList_inj {a b : ByteArray} : a.toList = b.toList ↔ a = b := by
 constructor
 ·intro h
  rw [ByteArray.toList_eq, ByteArray.toList_eq] at h
  cases a; cases b
  simpa using h
 intro h; rw [h]
def bA.l0 : Nat → List ByteArray → ByteArray → Int → Int → Option (Int)
 | 0, _, _, _, _ => none
 | k + 1, b, c, d, a => if a < d then (if 0 ≤ a then (if a < (b.length : Int) then (if c.toList = (rdOf ByteArray.empty b a).toList then (some a) else (bA.l0 k b c d (wrap64 (a + 1)))) else (none)) else (none)) else (some (-1))
def bA.f (k : Nat) (l0 : List ByteArray) (a1 : ByteArray) : Option (Int) := bA.l0 k l0 a1 (l0.length : Int) 0
theorem bA.OL : ∀ k, (∀ y0 y1 y2 y3, LeO (bA.l0 k y0 y1 y2 y3) (bA.l0 (k + 1) y0 y1 y2 y3))
 | 0 => fun _ _ _ _ r h => by simp [bA.l0] at h
 | k + 1 => by
  have ih0 := bA.OL k
  ·intro y0 y1 y2 y3
   unfold bA.l0
   repeat' first
   | (with_reducible exact ih0 _ _ _ _)
   | (with_reducible exact LeO.refl _)
   | (with_reducible exact LeO.none _)
   | (with_reducible refine LeO.ite ?_ ?_)
   | (with_reducible refine LeO.bind ?_ (fun _ => ?_))
   | exact ih0 _ _ _ _
   | exact LeO.none _
   | refine LeO.ite ?_ ?_
   | refine LeO.bind ?_ (fun _ => ?_)
theorem bA.mono : ∀ a0 a1 k, LeO (bA.f k a0 a1) (bA.f (k + 1) a0 a1) := by
 intro a0 a1 k
 have ih0 := bA.OL k
 unfold bA.f
 repeat' first
   | (with_reducible exact ih0 _ _ _ _)
   | (with_reducible exact LeO.refl _)
   | (with_reducible exact LeO.none _)
   | (with_reducible refine LeO.ite ?_ ?_)
   | (with_reducible refine LeO.bind ?_ (fun _ => ?_))
   | exact ih0 _ _ _ _
   | exact LeO.none _
   | refine LeO.ite ?_ ?_
   | refine LeO.bind ?_ (fun _ => ?_)
theorem bA.calls (k : Nat) (A0 : Option Addr) (c0 : Nat) (l0 : List ByteArray) (a1 : ByteArray) (r : Int) (w : World) (mO : Kd.C Kd.string w A0 l0.length l0) (nE : l0.length ≤ c0) (h : bA.f k l0 a1 = some r) :
  Calls Tryz.prog 81 #[.slice A0 l0.length c0, .string a1] w fun e w' => e = .returned (.int .i64 r) ∧ jA w w' := by
 obtain ⟨lH, uR⟩ := mZ2 mO nE
 clear mO nE
 unfold bA.f at h
 have H := h
 clear h
 have H' := am H
 repeat clear H
 go_enter Tryz.func81, Tryz.ntmps81
 go_wp2
 go_loopg [8] k (fun kq v8 w' => ∃ (Ez : Int), v8 = .int .i64 Ez ∧ aD (bA.l0 kq l0 a1 (l0.length : Int) Ez = some r) ∧ aD (kq ≤ k) ∧ jA w w')
 case atStart => exact ⟨(0), eS, H', ⟨Nat.le_refl _⟩, jI⟩
 clear H'
 obtain ⟨Ez, rfl, HA, HK1, ⟨m1, rfl⟩⟩ := hrel
 cases gk with
 | zero => exact absurd HA.out (by simp [bA.l0])
 | succ k1 =>
  have H := HA.out
  clear HA
  simp only [bA.l0] at H
  refine ic H ?_ ?_ <;> clear H <;> intro FP H
  ·obtain ⟨zQ, H⟩ := cN H
   obtain ⟨AZ, H⟩ := cN H
   refine iq H ?_ ?_ <;> clear H <;> intro c6 CC VO H
   ·obtain rfl := Option.some.inj H
    repeat clear H
    obtain ⟨jK, nD, kW, xZ, y6⟩ := aS lH b0 Ez
    cases nD
    go_wp2
    go_ret
    exact ⟨by first | rfl | (simp; done) | (simp [*]; done), jI⟩
   ·have H' := am H
    repeat clear H
    obtain ⟨jK, nD, kW, xZ, y6⟩ := aS lH b0 Ez
    cases nD
    go_wp2
    go_roundg k1
    case measure => have := HK1.out; omega
    case rel => exact ⟨(wrap64 (Ez + 1)), eS, H', ⟨by have := HK1.out; omega⟩, jI⟩
  ·obtain rfl := Option.some.inj H
   repeat clear H
   go_wp2
   go_ret
   exact ⟨by first | rfl | (simp; done) | (simp [*]; done), jI⟩
def aW.f (k : Nat) (l0 : List ByteArray) (a1 : ByteArray) : Option (Bool) := (bA.f k l0 a1).bind fun a => (some (decide (a ≥ 0)))
theorem aW.mono : ∀ a0 a1 k, LeO (aW.f k a0 a1) (aW.f (k + 1) a0 a1) := by
 intro a0 a1 k
 unfold aW.f
 repeat' first
   | (with_reducible exact bA.mono _ _ _)
   | (with_reducible exact LeO.refl _)
   | (with_reducible exact LeO.none _)
   | (with_reducible refine LeO.ite ?_ ?_)
   | (with_reducible refine LeO.bind ?_ (fun _ => ?_))
   | exact bA.mono _ _ _
   | exact LeO.none _
   | refine LeO.ite ?_ ?_
   | refine LeO.bind ?_ (fun _ => ?_)
theorem aW.calls (k : Nat) (A0 : Option Addr) (c0 : Nat) (l0 : List ByteArray) (a1 : ByteArray) (r : Bool) (w : World) (mO : Kd.C Kd.string w A0 l0.length l0) (nE : l0.length ≤ c0) (h : aW.f k l0 a1 = some r) :
  Calls Tryz.prog 42 #[.slice A0 l0.length c0, .string a1] w fun e w' => e = .returned (.bool r) ∧ jA w w' := by
 obtain ⟨lH, uR⟩ := mZ2 mO nE
 clear mO nE
 unfold aW.f at h
 have H := h
 clear h
 obtain ⟨Ew, A3, H⟩ := bd H
 obtain rfl := Option.some.inj H
 repeat clear H
 go_enter Tryz.func42, Tryz.ntmps42
 go_wp2_with (first | ((with_reducible refine gC 81 ?_); refine cQ (some 7) Tryz.func81 (bA.calls k _ _ l0 a1 Ew _ (pC lH.1) uR.1 A3.out) ?_; rintro w' ⟨nd, rfl⟩))
 go_ret
 exact ⟨by first | rfl | (simp; done) | (simp [*]; done), jI⟩
def hasS (l : List ByteArray) (s : ByteArray) : Bool := l.any fun x => s.toList == x.toList
theorem RX {i n : Nat} (h : i < n) (hn : n ≤ 9223372036854775807) : wrap64 ((i : Int) + 1) = ((i + 1 : Nat) : Int) := by
 unfold wrap64; omega
theorem X0 {α : Type} (d : α) (l : List α) (i : Nat) (h : i < l.length) : rdOf d l (i : Int) = l[i] := by
 unfold rdOf; simp [List.getD_eq_getElem?_getD, h]
theorem Jk (l : List ByteArray) (s : ByteArray) (hl : l.length ≤ 9223372036854775807) : ∀ (d k i : Nat), l.length - i = d → i ≤ l.length → d < k →
  ∃ r, bA.l0 k l s (l.length : Int) (i : Int) = some r ∧ decide (r ≥ 0) = (l.drop i).any fun x => s.toList == x.toList := by
 intro d
 induction d with
 | zero =>
  intro k i hd hi hk
  obtain ⟨k, rfl⟩ : ∃ m, k = m + 1 := ⟨k - 1, by omega⟩
  have : i = l.length := by omega
  subst this
  refine ⟨-1, ?_, by simp⟩
  simp only [bA.l0]
  rw [if_neg (by omega)]
 | succ d ih =>
  intro k i hd hi hk
  obtain ⟨k, rfl⟩ : ∃ m, k = m + 1 := ⟨k - 1, by omega⟩
  have hlt : i < l.length := by omega
  rw [List.drop_eq_getElem_cons hlt]
  simp only [bA.l0, List.any_cons]
  rw [if_pos (by omega), if_pos (by omega), if_pos (by omega), X0 _ _ _ hlt]
  by_cases e : s.toList = l[i].toList
  ·exact ⟨i, by rw [if_pos e], by simp [e]⟩
  ·obtain ⟨r, hr, h⟩ := ih k (i + 1) (by omega) (by omega) (by omega)
   refine ⟨r, ?_, by rw [h]; simp [e]⟩
   rw [if_neg e, RX hlt hl]
   exact hr
theorem yJ (l : List ByteArray) (s : ByteArray) (hl : l.length ≤ 9223372036854775807) : aW.f (l.length + 1) l s = some (hasS l s) := by
 obtain ⟨r, hr, h⟩ := Jk l s hl l.length (l.length + 1) 0 (by omega) (by omega) (by omega)
 unfold aW.f bA.f
 rw [show bA.l0 (l.length + 1) l s (l.length : Int) 0 = some r from hr]
 simp only [Option.bind_some]
 rw [h]
 rfl
mutual
def dC.j0 : Nat → ByteArray → Bool → Option (Bool)
 | 0, _, _ => none
 | k + 1, a, b => if b = true then (some false) else (dC.l0 k a 0)
def dC.l0 : Nat → ByteArray → Int → Option (Bool)
 | 0, _, _ => none
 | k + 1, b, a => if a < (b.size : Int) then (if 0 ≤ a then (if (bt b a) ≥ 97 then (if (bt b a) ≤ 122 then (dC.l0 k b (wrap64 (a + 1))) else (if (bt b a) ≥ 48 then (if (bt b a) ≤ 57 then (dC.l0 k b (wrap64 (a + 1))) else (if ((bt b a) = 45) then (dC.l0 k b (wrap64 (a + 1))) else (some false))) else (if ((bt b a) = 45) then (dC.l0 k b (wrap64 (a + 1))) else (some false)))) else (if (bt b a) ≥ 48 then (if (bt b a) ≤ 57 then (dC.l0 k b (wrap64 (a + 1))) else (if ((bt b a) = 45) then (dC.l0 k b (wrap64 (a + 1))) else (some false))) else (if ((bt b a) = 45) then (dC.l0 k b (wrap64 (a + 1))) else (some false)))) else (none)) else (some true)
end
def dC.f (k : Nat) (a0 : ByteArray) : Option (Bool) := if (a0.size : Int) < 1 then (dC.j0 k a0 true) else (dC.j0 k a0 (decide ((a0.size : Int) > 8)))
theorem dC.OL : ∀ k, (∀ y0 y1, LeO (dC.j0 k y0 y1) (dC.j0 (k + 1) y0 y1)) ∧ (∀ y0 y1, LeO (dC.l0 k y0 y1) (dC.l0 (k + 1) y0 y1))
 | 0 => ⟨fun _ _ r h => by simp [dC.j0] at h, fun _ _ r h => by simp [dC.l0] at h⟩
 | k + 1 => by
  obtain ⟨ih0, ih1⟩ := dC.OL k
  refine ⟨?_, ?_⟩
  ·intro y0 y1
   unfold dC.j0
   repeat' first
   | (with_reducible exact ih0 _ _)
   | (with_reducible exact ih1 _ _)
   | (with_reducible exact LeO.refl _)
   | (with_reducible exact LeO.none _)
   | (with_reducible refine LeO.ite ?_ ?_)
   | (with_reducible refine LeO.bind ?_ (fun _ => ?_))
   | exact ih0 _ _
   | exact ih1 _ _
   | exact LeO.none _
   | refine LeO.ite ?_ ?_
   | refine LeO.bind ?_ (fun _ => ?_)
  ·intro y0 y1
   unfold dC.l0
   repeat' first
   | (with_reducible exact ih0 _ _)
   | (with_reducible exact ih1 _ _)
   | (with_reducible exact LeO.refl _)
   | (with_reducible exact LeO.none _)
   | (with_reducible refine LeO.ite ?_ ?_)
   | (with_reducible refine LeO.bind ?_ (fun _ => ?_))
   | exact ih0 _ _
   | exact ih1 _ _
   | exact LeO.none _
   | refine LeO.ite ?_ ?_
   | refine LeO.bind ?_ (fun _ => ?_)
theorem dC.mono : ∀ a0 k, LeO (dC.f k a0) (dC.f (k + 1) a0) := by
 intro a0 k
 obtain ⟨ih0, ih1⟩ := dC.OL k
 unfold dC.f
 repeat' first
   | (with_reducible exact ih0 _ _)
   | (with_reducible exact ih1 _ _)
   | (with_reducible exact LeO.refl _)
   | (with_reducible exact LeO.none _)
   | (with_reducible refine LeO.ite ?_ ?_)
   | (with_reducible refine LeO.bind ?_ (fun _ => ?_))
   | exact ih0 _ _
   | exact ih1 _ _
   | exact LeO.none _
   | refine LeO.ite ?_ ?_
   | refine LeO.bind ?_ (fun _ => ?_)
theorem dC.calls (k : Nat) (a0 : ByteArray) (r : Bool) (w : World) (h : dC.f k a0 = some r) :
  Calls Tryz.prog 68 #[.string a0] w fun e w' => e = .returned (.bool r) ∧ jA w w' := by
 unfold dC.f at h
 have H := h
 clear h
 have pK := am H
 clear H
 go_enter Tryz.func68, Tryz.ntmps68
 go_upto_region 1 with ((fail))
 go_cut [12] (fun v12 wc => ∃ (kq : Nat) (l4 : Bool), v12 = .bool l4 ∧ aD (dC.j0 kq a0 l4 = some r) ∧ aD (kq ≤ k) ∧ jA w wc)
 case first =>
  have H := pK.1
  clear pK
  by_cases c3 : (a0.size : Int) < 1
  ·rw [if_pos c3] at H
   have FP : decide ((a0.size : Int) < 1) = true := decide_eq_true c3
   have pg : decide (a0.size < 1) = true := decide_eq_true (by omega)
   clear c3
   (first | rw [FP] | (simp only [rZ, xP]; rw [FP]) | skip)
   have H' := am H
   repeat clear H
   go_wp2
   go_meet
   exact ⟨_, (true), eS, H', ⟨by first | omega | exact Nat.le_refl _⟩, jI⟩
  rw [if_neg c3] at H
  have FP : decide ((a0.size : Int) < 1) = false := decide_eq_false c3
  have pg : decide (a0.size < 1) = false := decide_eq_false (by omega)
  clear c3
  (first | rw [FP] | (simp only [rZ, xP]; rw [FP]) | skip)
  have H' := am H
  repeat clear H
  go_wp2
  go_meet
  exact ⟨_, (decide ((a0.size : Int) > 8)), eS, H', ⟨by first | omega | exact Nat.le_refl _⟩, jI⟩
 clear pK
 obtain ⟨kq, l4, rfl, HA, HJ1, ⟨mc1, rfl⟩⟩ := hcut
 cases kq with
 | zero => exact absurd HA.out (by simp [dC.j0])
 | succ kj1 =>
  have H := HA.out
  clear HA
  simp only [dC.j0] at H
  refine tC H ?_ ?_ <;> (repeat clear H) <;> intro c4 H <;> subst c4
  ·obtain rfl := Option.some.inj H
   repeat clear H
   go_wp2
   go_ret
   exact ⟨by first | rfl | (simp; done) | (simp [*]; done), jI⟩
  ·have H' := am H
   repeat clear H
   go_wp2
   go_loopg [3] kj1 (fun kq v3 w' => ∃ (gI : Int), v3 = .int .i64 gI ∧ aD (dC.l0 kq a0 gI = some r) ∧ aD (kq ≤ kj1) ∧ jA w w')
   case atStart => exact ⟨(0), eS, H', ⟨Nat.le_refl _⟩, jI⟩
   case round =>
    clear H'
    try clear c4
    obtain ⟨gI, rfl, HA, HK2, ⟨m2, rfl⟩⟩ := hrel
    cases gk with
    | zero => exact absurd HA.out (by simp [dC.l0])
    | succ k2 =>
     have H := HA.out
     clear HA
     simp only [dC.l0] at H
     refine ic H ?_ ?_ <;> clear H <;> intro AZ H
     ·obtain ⟨CC, H⟩ := cN H
      by_cases c8 : (bt a0 gI) ≥ 97
      ·rw [if_pos c8] at H
       have EH : decide (97 ≤ (bt a0 gI)) = true := decide_eq_true c8
       clear c8
       refine ic H ?_ ?_ <;> clear H <;> intro I2 H
       ·have H' := am H
        repeat clear H
        obtain ⟨Fd, p7, q7⟩ := aB a0 gI
        go_wp2
        go_roundg k2
        case measure => have := HJ1.out; have := HK2.out; omega
        case rel => exact ⟨(wrap64 (gI + 1)), eS, H', ⟨by have := HJ1.out; have := HK2.out; omega⟩, jI⟩
       ·by_cases Ba : (bt a0 gI) ≥ 48
        ·rw [if_pos Ba] at H
         have yI : decide (48 ≤ (bt a0 gI)) = true := decide_eq_true Ba
         clear Ba
         refine ic H ?_ ?_ <;> clear H <;> intro C9 H
         ·have H' := am H
          repeat clear H
          obtain ⟨Fd, p7, q7⟩ := aB a0 gI
          go_wp2
          go_roundg k2
          case measure => have := HJ1.out; have := HK2.out; omega
          case rel => exact ⟨(wrap64 (gI + 1)), eS, H', ⟨by have := HJ1.out; have := HK2.out; omega⟩, jI⟩
         ·refine iq H ?_ ?_ <;> clear H <;> intro c12 NT fi H
          ·have H' := am H
           repeat clear H
           obtain ⟨Fd, p7, q7⟩ := aB a0 gI
           go_wp2
           go_roundg k2
           case measure => have := HJ1.out; have := HK2.out; omega
           case rel => exact ⟨(wrap64 (gI + 1)), eS, H', ⟨by have := HJ1.out; have := HK2.out; omega⟩, jI⟩
          ·obtain rfl := Option.some.inj H
           repeat clear H
           obtain ⟨Fd, p7, q7⟩ := aB a0 gI
           go_wp2
           go_ret
           exact ⟨by first | rfl | (simp; done) | (simp [*]; done), jI⟩
        ·rw [if_neg Ba] at H
         have yI : decide (48 ≤ (bt a0 gI)) = false := decide_eq_false Ba
         clear Ba
         refine iq H ?_ ?_ <;> clear H <;> intro Ig VJ yb H
         ·have H' := am H
          repeat clear H
          obtain ⟨Fd, p7, q7⟩ := aB a0 gI
          go_wp2
          go_roundg k2
          case measure => have := HJ1.out; have := HK2.out; omega
          case rel => exact ⟨(wrap64 (gI + 1)), eS, H', ⟨by have := HJ1.out; have := HK2.out; omega⟩, jI⟩
         ·obtain rfl := Option.some.inj H
          repeat clear H
          obtain ⟨Fd, p7, q7⟩ := aB a0 gI
          go_wp2
          go_ret
          exact ⟨by first | rfl | (simp; done) | (simp [*]; done), jI⟩
      ·rw [if_neg c8] at H
       have EH : decide (97 ≤ (bt a0 gI)) = false := decide_eq_false c8
       clear c8
       by_cases XJ : (bt a0 gI) ≥ 48
       ·rw [if_pos XJ] at H
        have KW : decide (48 ≤ (bt a0 gI)) = true := decide_eq_true XJ
        clear XJ
        refine ic H ?_ ?_ <;> clear H <;> intro VK H
        ·have H' := am H
         repeat clear H
         obtain ⟨Fd, p7, q7⟩ := aB a0 gI
         go_wp2
         go_roundg k2
         case measure => have := HJ1.out; have := HK2.out; omega
         case rel => exact ⟨(wrap64 (gI + 1)), eS, H', ⟨by have := HJ1.out; have := HK2.out; omega⟩, jI⟩
        ·refine iq H ?_ ?_ <;> clear H <;> intro fk Ih fm H
         ·have H' := am H
          repeat clear H
          obtain ⟨Fd, p7, q7⟩ := aB a0 gI
          go_wp2
          go_roundg k2
          case measure => have := HJ1.out; have := HK2.out; omega
          case rel => exact ⟨(wrap64 (gI + 1)), eS, H', ⟨by have := HJ1.out; have := HK2.out; omega⟩, jI⟩
         ·obtain rfl := Option.some.inj H
          repeat clear H
          obtain ⟨Fd, p7, q7⟩ := aB a0 gI
          go_wp2
          go_ret
          exact ⟨by first | rfl | (simp; done) | (simp [*]; done), jI⟩
       ·rw [if_neg XJ] at H
        have KW : decide (48 ≤ (bt a0 gI)) = false := decide_eq_false XJ
        clear XJ
        refine iq H ?_ ?_ <;> clear H <;> intro Za Rl ye H
        ·have H' := am H
         repeat clear H
         obtain ⟨Fd, p7, q7⟩ := aB a0 gI
         go_wp2
         go_roundg k2
         case measure => have := HJ1.out; have := HK2.out; omega
         case rel => exact ⟨(wrap64 (gI + 1)), eS, H', ⟨by have := HJ1.out; have := HK2.out; omega⟩, jI⟩
        ·obtain rfl := Option.some.inj H
         repeat clear H
         obtain ⟨Fd, p7, q7⟩ := aB a0 gI
         go_wp2
         go_ret
         exact ⟨by first | rfl | (simp; done) | (simp [*]; done), jI⟩
     ·obtain rfl := Option.some.inj H
      repeat clear H
      go_wp2
      go_ret
      exact ⟨by first | rfl | (simp; done) | (simp [*]; done), jI⟩
end Go.Proofs.YtaofjgnhapnndaaGreatDoor.Q
namespace Go.Proofs.YtaofjgnhapnndaaGreatDoor.Q
open Go.RowKit Go.Proofs.YtaofjgnhapnndaaGreatDoorW.PrintWords Go.Proofs.YtaofjgnhapnndaaGreatDoorW.PrintLast Go.Proofs.YtaofjgnhapnndaaGreatDoorW.PrintMore
set_option linter.unusedVariables false
set_option linter.unusedSimpArgs false
def okc (c : Int) : Bool := (decide (97 ≤ c) && decide (c ≤ 122)) || (decide (48 ≤ c) && decide (c ≤ 57)) || decide (c = 45)
def qU (s : ByteArray) : Bool := decide (1 ≤ s.size) && decide (s.size ≤ 8) && (List.range' 0 s.size).all fun j => okc (bt s (j : Int))
theorem Jz {c : Int} (h : okc c = true) : (97 ≤ c ∧ c ≤ 122) ∨ (48 ≤ c ∧ c ≤ 57) ∨ c = 45 := by
 simpa [okc, or_assoc] using h
theorem Ed {c : Int} (h : okc c = false) : ¬ (97 ≤ c ∧ c ≤ 122) ∧ ¬ (48 ≤ c ∧ c ≤ 57) ∧ ¬ c = 45 := by
 simp only [okc, Bool.or_eq_false_iff, Bool.and_eq_false_iff, decide_eq_false_iff_not] at h
 omega
theorem U8 {α : Type} (c : Int) (x y : α) :
  (if c ≥ 97 then (if c ≤ 122 then x else (if c ≥ 48 then (if c ≤ 57 then x else (if c = 45 then x else y)) else (if c = 45 then x else y))) else (if c ≥ 48 then (if c ≤ 57 then x else (if c = 45 then x else y)) else (if c = 45 then x else y))) = if okc c = true then x else y := by
 cases h : okc c with
 | true =>
  rw [if_pos rfl]
  have h := Jz h
  split
  ·split
   ·rfl
   ·split
    ·split
     ·rfl
     ·rw [if_pos (by omega)]
    ·rw [if_pos (by omega)]
  ·split
   ·split
    ·rfl
    ·rw [if_pos (by omega)]
   ·rw [if_pos (by omega)]
 | false =>
  rw [show (if false = true then x else y) = y from rfl]
  obtain ⟨h1, h2, h3⟩ := Ed h
  rw [if_neg h3]
  by_cases a : c ≥ 97
  ·rw [if_pos a, if_neg (fun b => h1 ⟨a, b⟩)]
   by_cases a2 : c ≥ 48
   ·rw [if_pos a2, if_neg (fun b => h2 ⟨a2, b⟩)]
   ·rw [if_neg a2]
  ·rw [if_neg a]
   by_cases a2 : c ≥ 48
   ·rw [if_pos a2, if_neg (fun b => h2 ⟨a2, b⟩)]
   ·rw [if_neg a2]
theorem Pf (s : ByteArray) (hs : s.size ≤ 9223372036854775807) : ∀ (d k i : Nat), s.size - i = d → i ≤ s.size → d < k →
  dC.l0 k s (i : Int) = some ((List.range' i d).all fun j => okc (bt s (j : Int))) := by
 intro d
 induction d with
 | zero =>
  intro k i hd hi hk
  obtain ⟨k, rfl⟩ : ∃ m, k = m + 1 := ⟨k - 1, by omega⟩
  simp only [dC.l0]
  rw [if_neg (by omega)]
  rfl
 | succ d ih =>
  intro k i hd hi hk
  obtain ⟨k, rfl⟩ : ∃ m, k = m + 1 := ⟨k - 1, by omega⟩
  simp only [dC.l0, List.range'_succ, List.all_cons]
  rw [if_pos (by omega), if_pos (by omega), U8]
  cases h : okc (bt s (i : Int)) with
  | true =>
   rw [if_pos rfl, RX (show i < s.size by omega) hs, ih k (i + 1) (by omega) (by omega) (by omega)]
   rfl
  | false =>
   rw [if_neg (by simp)]
   rfl
theorem Ce (s : ByteArray) : dC.f 10 s = some (qU s) := by
 unfold dC.f qU
 by_cases h1 : (s.size : Int) < 1
 ·rw [if_pos h1]
  simp only [dC.j0]
  rw [if_pos trivial, show decide (1 ≤ s.size) = false from decide_eq_false (by omega)]
  rfl
 rw [if_neg h1]
 simp only [dC.j0]
 by_cases h2 : (s.size : Int) > 8
 ·rw [if_pos (decide_eq_true h2), show decide (s.size ≤ 8) = false from decide_eq_false (by omega)]
  simp
 rw [if_neg (by simpa using h2), show (0 : Int) = ((0 : Nat) : Int) from rfl, Pf s (by omega) s.size 9 0 (by omega) (by omega) (by omega)]
 rw [show decide (s.size ≤ 8) = true from decide_eq_true (by omega), show decide (1 ≤ s.size) = true from decide_eq_true (by omega)]
 rfl
def tF.f (a0 : Int) (a1 : Int) (a2 : Int) : Option (Bool) := if a0 ≥ a1 then (some (decide (a0 ≤ a2))) else (some false)
theorem tF.calls (a0 : Int) (a1 : Int) (a2 : Int) (r : Bool) (w : World) (h : tF.f a0 a1 a2 = some r) :
  Calls Tryz.prog 84 #[.int .i64 a0, .int .i64 a1, .int .i64 a2] w fun e w' => e = .returned (.bool r) ∧ jA w w' := by
 unfold tF.f at h
 have H := h
 clear h
 by_cases c4 : a0 ≥ a1
 ·rw [if_pos c4] at H
  have zQ : decide (a1 ≤ a0) = true := decide_eq_true c4
  clear c4
  obtain rfl := Option.some.inj H
  repeat clear H
  go_enter Tryz.func84, Tryz.ntmps84
  go_wp2
  go_ret
  exact ⟨by first | rfl | (simp; done) | (simp [*]; done), jI⟩
 rw [if_neg c4] at H
 have zQ : decide (a1 ≤ a0) = false := decide_eq_false c4
 clear c4
 obtain rfl := Option.some.inj H
 repeat clear H
 go_enter Tryz.func84, Tryz.ntmps84
 go_wp2
 go_ret
 exact ⟨by first | rfl | (simp; done) | (simp [*]; done), jI⟩
def bT.l0 : Nat → ByteArray → Int → Option (Bool)
 | 0, _, _ => none
 | k + 1, b, a => if a < (b.size : Int) then (if 0 ≤ a then (if (bt b a) ≥ 97 then (if (bt b a) ≤ 122 then (bT.l0 k b (wrap64 (a + 1))) else (if (bt b a) ≥ 48 then (if (bt b a) ≤ 57 then (bT.l0 k b (wrap64 (a + 1))) else (if ((bt b a) = 45) then (bT.l0 k b (wrap64 (a + 1))) else (some false))) else (if ((bt b a) = 45) then (bT.l0 k b (wrap64 (a + 1))) else (some false)))) else (if (bt b a) ≥ 48 then (if (bt b a) ≤ 57 then (bT.l0 k b (wrap64 (a + 1))) else (if ((bt b a) = 45) then (bT.l0 k b (wrap64 (a + 1))) else (some false))) else (if ((bt b a) = 45) then (bT.l0 k b (wrap64 (a + 1))) else (some false)))) else (none)) else (some true)
def bT.f (k : Nat) (a0 : ByteArray) : Option (Bool) := (tF.f (a0.size : Int) 1 8).bind fun a => (if a = true then (bT.l0 k a0 0) else (some false))
theorem bT.calls (k : Nat) (a0 : ByteArray) (r : Bool) (w : World) (h : bT.f k a0 = some r) :
  Calls Tryz.prog 51 #[.string a0] w fun e w' => e = .returned (.bool r) ∧ jA w w' := by
 unfold bT.f at h
 have H := h
 clear h
 obtain ⟨Ew, A2, H⟩ := bd H
 refine tC H ?_ ?_ <;> clear H <;> intro c3 H <;> subst c3
 ·have H' := am H
  repeat clear H
  go_enter Tryz.func51, Tryz.ntmps51
  go_wp2_with (first | ((with_reducible refine gC 84 ?_); refine cQ (some 7) Tryz.func84 (tF.calls (a0.size : Int) 1 8 true _ A2.out) ?_; rintro w' ⟨nd, rfl⟩))
  go_loopg [3] k (fun kq v3 w' => ∃ (gV : Int), v3 = .int .i64 gV ∧ aD (bT.l0 kq a0 gV = some r) ∧ aD (kq ≤ k) ∧ jA w w')
  case atStart => exact ⟨(0), eS, H', ⟨Nat.le_refl _⟩, jI⟩
  clear H'
  try clear c3
  obtain ⟨gV, rfl, HA, HK1, ⟨m1, rfl⟩⟩ := hrel
  cases gk with
  | zero => exact absurd HA.out (by simp [bT.l0])
  | succ k1 =>
   have H := HA.out
   clear HA
   simp only [bT.l0] at H
   refine ic H ?_ ?_ <;> clear H <;> intro zQ H
   ·obtain ⟨AZ, H⟩ := cN H
    by_cases c7 : (bt a0 gV) ≥ 97
    ·rw [if_pos c7] at H
     have NV : decide (97 ≤ (bt a0 gV)) = true := decide_eq_true c7
     clear c7
     refine ic H ?_ ?_ <;> clear H <;> intro EH H
     ·have H' := am H
      repeat clear H
      obtain ⟨Ma, p6, q6⟩ := aB a0 gV
      go_wp2
      go_roundg k1
      case measure => have := HK1.out; omega
      case rel => exact ⟨(wrap64 (gV + 1)), eS, H', ⟨by have := HK1.out; omega⟩, jI⟩
     ·by_cases c9 : (bt a0 gV) ≥ 48
      ·rw [if_pos c9] at H
       have I2 : decide (48 ≤ (bt a0 gV)) = true := decide_eq_true c9
       clear c9
       refine ic H ?_ ?_ <;> clear H <;> intro yI H
       ·have H' := am H
        repeat clear H
        obtain ⟨Ma, p6, q6⟩ := aB a0 gV
        go_wp2
        go_roundg k1
        case measure => have := HK1.out; omega
        case rel => exact ⟨(wrap64 (gV + 1)), eS, H', ⟨by have := HK1.out; omega⟩, jI⟩
       ·refine iq H ?_ ?_ <;> clear H <;> intro Nr C9 fh H
        ·have H' := am H
         repeat clear H
         obtain ⟨Ma, p6, q6⟩ := aB a0 gV
         go_wp2
         go_roundg k1
         case measure => have := HK1.out; omega
         case rel => exact ⟨(wrap64 (gV + 1)), eS, H', ⟨by have := HK1.out; omega⟩, jI⟩
        ·obtain rfl := Option.some.inj H
         repeat clear H
         obtain ⟨Ma, p6, q6⟩ := aB a0 gV
         go_wp2
         go_ret
         exact ⟨by first | rfl | (simp; done) | (simp [*]; done), jI⟩
      ·rw [if_neg c9] at H
       have I2 : decide (48 ≤ (bt a0 gV)) = false := decide_eq_false c9
       clear c9
       refine iq H ?_ ?_ <;> clear H <;> intro c12 NT fi H
       ·have H' := am H
        repeat clear H
        obtain ⟨Ma, p6, q6⟩ := aB a0 gV
        go_wp2
        go_roundg k1
        case measure => have := HK1.out; omega
        case rel => exact ⟨(wrap64 (gV + 1)), eS, H', ⟨by have := HK1.out; omega⟩, jI⟩
       ·obtain rfl := Option.some.inj H
        repeat clear H
        obtain ⟨Ma, p6, q6⟩ := aB a0 gV
        go_wp2
        go_ret
        exact ⟨by first | rfl | (simp; done) | (simp [*]; done), jI⟩
    ·rw [if_neg c7] at H
     have NV : decide (97 ≤ (bt a0 gV)) = false := decide_eq_false c7
     clear c7
     by_cases Ig : (bt a0 gV) ≥ 48
     ·rw [if_pos Ig] at H
      have VJ : decide (48 ≤ (bt a0 gV)) = true := decide_eq_true Ig
      clear Ig
      refine ic H ?_ ?_ <;> clear H <;> intro KW H
      ·have H' := am H
       repeat clear H
       obtain ⟨Ma, p6, q6⟩ := aB a0 gV
       go_wp2
       go_roundg k1
       case measure => have := HK1.out; omega
       case rel => exact ⟨(wrap64 (gV + 1)), eS, H', ⟨by have := HK1.out; omega⟩, jI⟩
      ·refine iq H ?_ ?_ <;> clear H <;> intro yd VK fj H
       ·have H' := am H
        repeat clear H
        obtain ⟨Ma, p6, q6⟩ := aB a0 gV
        go_wp2
        go_roundg k1
        case measure => have := HK1.out; omega
        case rel => exact ⟨(wrap64 (gV + 1)), eS, H', ⟨by have := HK1.out; omega⟩, jI⟩
       ·obtain rfl := Option.some.inj H
        repeat clear H
        obtain ⟨Ma, p6, q6⟩ := aB a0 gV
        go_wp2
        go_ret
        exact ⟨by first | rfl | (simp; done) | (simp [*]; done), jI⟩
     ·rw [if_neg Ig] at H
      have VJ : decide (48 ≤ (bt a0 gV)) = false := decide_eq_false Ig
      clear Ig
      refine iq H ?_ ?_ <;> clear H <;> intro fk Ih fm H
      ·have H' := am H
       repeat clear H
       obtain ⟨Ma, p6, q6⟩ := aB a0 gV
       go_wp2
       go_roundg k1
       case measure => have := HK1.out; omega
       case rel => exact ⟨(wrap64 (gV + 1)), eS, H', ⟨by have := HK1.out; omega⟩, jI⟩
      ·obtain rfl := Option.some.inj H
       repeat clear H
       obtain ⟨Ma, p6, q6⟩ := aB a0 gV
       go_wp2
       go_ret
       exact ⟨by first | rfl | (simp; done) | (simp [*]; done), jI⟩
   ·obtain rfl := Option.some.inj H
    repeat clear H
    go_wp2
    go_ret
    exact ⟨by first | rfl | (simp; done) | (simp [*]; done), jI⟩
 obtain rfl := Option.some.inj H
 repeat clear H
 go_enter Tryz.func51, Tryz.ntmps51
 go_wp2_with (first | ((with_reducible refine gC 84 ?_); refine cQ (some 7) Tryz.func84 (tF.calls (a0.size : Int) 1 8 false _ A2.out) ?_; rintro w' ⟨nd, rfl⟩))
 go_ret
 exact ⟨by first | rfl | (simp; done) | (simp [*]; done), jI⟩
def fD.l0 : Nat → List ByteArray → Int → Option (Bool)
 | 0, _, _ => none
 | k + 1, b, a => if a < (b.length : Int) then (if 0 ≤ a then ((bT.f k (rdOf ByteArray.empty b a)).bind fun c => (if c = true then (if a > 0 then (if 0 ≤ (wrap64 (a - 1)) then (if (wrap64 (a - 1)) < (b.length : Int) then (if ((Op.bytesLess ((rdOf ByteArray.empty b (wrap64 (a - 1))).toList) ((rdOf ByteArray.empty b a).toList)) = true) then (fD.l0 k b (wrap64 (a + 1))) else (some false)) else (none)) else (none)) else (fD.l0 k b (wrap64 (a + 1)))) else (some false))) else (none)) else (some true)
def fD.f (k : Nat) (l0 : List ByteArray) : Option (Bool) := if (l0.length : Int) > 8 then (some false) else (fD.l0 k l0 0)
theorem fD.calls (k : Nat) (A0 : Option Addr) (c0 : Nat) (l0 : List ByteArray) (r : Bool) (w : World) (mO : Kd.C Kd.string w A0 l0.length l0) (nE : l0.length ≤ c0) (h : fD.f k l0 = some r) :
  Calls Tryz.prog 50 #[.slice A0 l0.length c0] w fun e w' => e = .returned (.bool r) ∧ jA w w' := by
 obtain ⟨lH, uR⟩ := mZ2 mO nE
 clear mO nE
 unfold fD.f at h
 have H := h
 clear h
 by_cases c2 : (l0.length : Int) > 8
 ·rw [if_pos c2] at H
  have VM : decide (8 < (l0.length : Int)) = true := decide_eq_true c2
  have Vh : decide (8 < l0.length) = true := decide_eq_true (by omega)
  clear c2
  obtain rfl := Option.some.inj H
  repeat clear H
  go_enter Tryz.func50, Tryz.ntmps50
  go_wp2
  repeat (go_quiet (fail); try go_wp2)
  go_ret
  exact ⟨by first | rfl | (simp; done) | (simp [*]; done), jI⟩
 rw [if_neg c2] at H
 have VM : decide (8 < (l0.length : Int)) = false := decide_eq_false c2
 have Vh : decide (8 < l0.length) = false := decide_eq_false (by omega)
 clear c2
 have H' := am H
 repeat clear H
 go_enter Tryz.func50, Tryz.ntmps50
 go_wp2
 repeat (go_quiet (fail); try go_wp2)
 go_loopg [3] k (fun kq v3 w' => ∃ (gV : Int), v3 = .int .i64 gV ∧ aD (fD.l0 kq l0 gV = some r) ∧ aD (kq ≤ k) ∧ jA w w')
 case atStart => exact ⟨(0), eS, H', ⟨Nat.le_refl _⟩, jI⟩
 clear H'
 try clear c2
 try clear VM
 try clear Vh
 obtain ⟨gV, rfl, HA, HK1, ⟨m1, rfl⟩⟩ := hrel
 cases gk with
 | zero => exact absurd HA.out (by simp [fD.l0])
 | succ k1 =>
  have H := HA.out
  clear HA
  simp only [fD.l0] at H
  refine ic H ?_ ?_ <;> clear H <;> intro FP H
  obtain ⟨zQ, H⟩ := cN H
  obtain ⟨wE, A5, H⟩ := bd H
  refine tC H ?_ ?_ <;> clear H <;> intro c6 H <;> subst c6
  by_cases c7 : gV > 0
  rw [if_pos c7] at H
  have NV : decide (0 < gV) = true := decide_eq_true c7
  clear c7
  obtain ⟨ji8, hji8⟩ : ∃ j_ : Int, (wrap64 (gV - 1)) = j_ := ⟨_, rfl⟩
  replace H : (if 0 ≤ (ji8) then (if (ji8) < (l0.length : Int) then (if ((Op.bytesLess ((rdOf ByteArray.empty l0 (ji8)).toList) ((rdOf ByteArray.empty l0 gV).toList)) = true) then (fD.l0 k1 l0 (wrap64 (gV + 1))) else (some false)) else (none)) else (none)) = some r := by first | (rw [hji8] at H; exact H) | (simp only [hji8] at H ⊢; exact H)
  (try rw [hji8] at A5)
  have hji8w : (IntKind.i64.wrap (gV - 1)) = ji8 := (rZ _).trans hji8
  obtain ⟨I2, H⟩ := cN H
  obtain ⟨yI, H⟩ := cN H
  refine tC H ?_ ?_ <;> clear H <;> intro C9 H
  have H' := am H
  repeat clear H
  obtain ⟨jK, nD, kW, xZ, y6⟩ := aS lH b0 gV
  cases nD
  have og := trivial
  rotate_left
  obtain rfl := Option.some.inj H
  repeat clear H
  obtain ⟨jK, nD, kW, xZ, y6⟩ := aS lH b0 gV
  cases nD
  have og := trivial
  rotate_left
  rw [if_neg c7] at H
  have NV : decide (0 < gV) = false := decide_eq_false c7
  clear c7
  have H' := am H
  repeat clear H
  obtain ⟨jK, nD, kW, xZ, y6⟩ := aS lH b0 gV
  cases nD
  have uk := trivial
  rotate_left
  obtain rfl := Option.some.inj H
  repeat clear H
  obtain ⟨jK, nD, kW, xZ, y6⟩ := aS lH b0 gV
  cases nD
  have ul := trivial
  rotate_left
  obtain rfl := Option.some.inj H
  repeat clear H
  rotate_left
  all_goals
   go_wp2_with (first | (go_at_call 51; revert og; intro og; revert A5; intro A5; refine cM (bT.calls k1 (rdOf ByteArray.empty l0 gV) true _ A5.out) ?_; rintro w' ⟨nd, rfl⟩; (try exact dR); obtain ⟨lM, sN, pH, G9, GB⟩ := aS lH b0 (ji8); obtain rfl : jK = lM := (by injection sN); obtain ⟨kK, sO, pI, GA, GC⟩ := aS lH b0 gV; obtain rfl : jK = kK := (by injection sO); clear A5) | (go_at_call 51; revert uk; intro uk; revert A5; intro A5; refine cM (bT.calls k1 (rdOf ByteArray.empty l0 gV) true _ A5.out) ?_; rintro w' ⟨nd, rfl⟩; (try exact dR); clear A5) | (go_at_call 51; revert ul; intro ul; revert A5; intro A5; refine cM (bT.calls k1 (rdOf ByteArray.empty l0 gV) false _ A5.out) ?_; rintro w' ⟨nd, rfl⟩; (try exact dR); clear A5))
  ·repeat (go_quiet (first | (go_at_call 51; refine cM (bT.calls k1 (rdOf ByteArray.empty l0 gV) true _ A5.out) ?_; rintro w' ⟨nd, rfl⟩; (try exact dR); obtain ⟨lM, sN, pH, G9, GB⟩ := aS lH b0 (ji8); obtain rfl : jK = lM := (by injection sN); obtain ⟨kK, sO, pI, GA, GC⟩ := aS lH b0 gV; obtain rfl : jK = kK := (by injection sO))); try go_wp2_with (first | (go_at_call 51; refine cM (bT.calls k1 (rdOf ByteArray.empty l0 gV) true _ A5.out) ?_; rintro w' ⟨nd, rfl⟩; (try exact dR); obtain ⟨lM, sN, pH, G9, GB⟩ := aS lH b0 (ji8); obtain rfl : jK = lM := (by injection sN); obtain ⟨kK, sO, pI, GA, GC⟩ := aS lH b0 gV; obtain rfl : jK = kK := (by injection sO))))
   go_roundg k1
   case measure => have := HK1.out; omega
   case rel => exact ⟨(wrap64 (gV + 1)), eS, H', ⟨by have := HK1.out; omega⟩, jI⟩
  ·repeat (go_quiet (first | (go_at_call 51; refine cM (bT.calls k1 (rdOf ByteArray.empty l0 gV) true _ A5.out) ?_; rintro w' ⟨nd, rfl⟩; (try exact dR); obtain ⟨lM, sN, pH, G9, GB⟩ := aS lH b0 (ji8); obtain rfl : jK = lM := (by injection sN); obtain ⟨kK, sO, pI, GA, GC⟩ := aS lH b0 gV; obtain rfl : jK = kK := (by injection sO))); try go_wp2_with (first | (go_at_call 51; refine cM (bT.calls k1 (rdOf ByteArray.empty l0 gV) true _ A5.out) ?_; rintro w' ⟨nd, rfl⟩; (try exact dR); obtain ⟨lM, sN, pH, G9, GB⟩ := aS lH b0 (ji8); obtain rfl : jK = lM := (by injection sN); obtain ⟨kK, sO, pI, GA, GC⟩ := aS lH b0 gV; obtain rfl : jK = kK := (by injection sO))))
   go_ret
   exact ⟨by first | rfl | (simp; done) | (simp only [← hji8] <;> (first | rfl | simp)) | (simp [*]; done), jI⟩
  ·repeat (go_quiet (first | (go_at_call 51; refine cM (bT.calls k1 (rdOf ByteArray.empty l0 gV) true _ A5.out) ?_; rintro w' ⟨nd, rfl⟩; (try exact dR))); try go_wp2_with (first | (go_at_call 51; refine cM (bT.calls k1 (rdOf ByteArray.empty l0 gV) true _ A5.out) ?_; rintro w' ⟨nd, rfl⟩; (try exact dR))))
   go_roundg k1
   case measure => have := HK1.out; omega
   case rel => exact ⟨(wrap64 (gV + 1)), eS, H', ⟨by have := HK1.out; omega⟩, jI⟩
  ·repeat (go_quiet (first | (go_at_call 51; refine cM (bT.calls k1 (rdOf ByteArray.empty l0 gV) false _ A5.out) ?_; rintro w' ⟨nd, rfl⟩; (try exact dR))); try go_wp2_with (first | (go_at_call 51; refine cM (bT.calls k1 (rdOf ByteArray.empty l0 gV) false _ A5.out) ?_; rintro w' ⟨nd, rfl⟩; (try exact dR))))
   go_ret
   exact ⟨by first | rfl | (simp; done) | (simp [*]; done), jI⟩
  ·repeat (go_quiet (fail); try go_wp2)
   go_ret
   exact ⟨by first | rfl | (simp; done) | (simp [*]; done), jI⟩
def cZ.l0 : Nat → List ByteArray → ByteArray → Int → Option (Bool)
 | 0, _, _, _ => none
 | k + 1, b, c, a => if a < (b.length : Int) then (if 0 ≤ a then (if (rdOf ByteArray.empty b a).toList = c.toList then (some true) else (cZ.l0 k b c (wrap64 (a + 1)))) else (none)) else (some false)
def cZ.f (k : Nat) (l0 : List ByteArray) (a1 : ByteArray) : Option (Bool) := cZ.l0 k l0 a1 0
theorem cZ.calls (k : Nat) (A0 : Option Addr) (c0 : Nat) (l0 : List ByteArray) (a1 : ByteArray) (r : Bool) (w : World) (mO : Kd.C Kd.string w A0 l0.length l0) (nE : l0.length ≤ c0) (h : cZ.f k l0 a1 = some r) :
  Calls Tryz.prog 59 #[.slice A0 l0.length c0, .string a1] w fun e w' => e = .returned (.bool r) ∧ jA w w' := by
 obtain ⟨lH, uR⟩ := mZ2 mO nE
 clear mO nE
 unfold cZ.f at h
 have H := h
 clear h
 have H' := am H
 repeat clear H
 go_enter Tryz.func59, Tryz.ntmps59
 go_wp2
 go_loopg [5] k (fun kq v5 w' => ∃ (dK : Int), v5 = .int .i64 dK ∧ aD (cZ.l0 kq l0 a1 dK = some r) ∧ aD (kq ≤ k) ∧ jA w w')
 case atStart => exact ⟨(0), eS, H', ⟨Nat.le_refl _⟩, jI⟩
 clear H'
 obtain ⟨dK, rfl, HA, HK1, ⟨m1, rfl⟩⟩ := hrel
 cases gk with
 | zero => exact absurd HA.out (by simp [cZ.l0])
 | succ k1 =>
  have H := HA.out
  clear HA
  simp only [cZ.l0] at H
  refine ic H ?_ ?_ <;> clear H <;> intro FP H
  ·obtain ⟨zQ, H⟩ := cN H
   refine iq H ?_ ?_ <;> clear H <;> intro c5 AZ a4Z H
   ·obtain rfl := Option.some.inj H
    repeat clear H
    obtain ⟨jK, nD, kW, xZ, y6⟩ := aS lH b0 dK
    cases nD
    go_wp2
    go_ret
    exact ⟨by first | rfl | (simp; done) | (simp [*]; done), jI⟩
   ·have H' := am H
    repeat clear H
    obtain ⟨jK, nD, kW, xZ, y6⟩ := aS lH b0 dK
    cases nD
    go_wp2
    go_roundg k1
    case measure => have := HK1.out; omega
    case rel => exact ⟨(wrap64 (dK + 1)), eS, H', ⟨by have := HK1.out; omega⟩, jI⟩
  ·obtain rfl := Option.some.inj H
   repeat clear H
   go_wp2
   go_ret
   exact ⟨by first | rfl | (simp; done) | (simp [*]; done), jI⟩
def bV.l0 : Nat → List ByteArray → List ByteArray → Int → Option (Bool)
 | 0, _, _, _ => none
 | k + 1, b, c, a => if a < (b.length : Int) then (if 0 ≤ a then ((cZ.f k c (rdOf ByteArray.empty b a)).bind fun d => (if d = true then (if a > 0 then (if 0 ≤ (wrap64 (a - 1)) then (if (wrap64 (a - 1)) < (b.length : Int) then (if ((Op.bytesLess ((rdOf ByteArray.empty b (wrap64 (a - 1))).toList) ((rdOf ByteArray.empty b a).toList)) = true) then (bV.l0 k b c (wrap64 (a + 1))) else (some false)) else (none)) else (none)) else (bV.l0 k b c (wrap64 (a + 1)))) else (some false))) else (none)) else (some true)
def bV.f (k : Nat) (l0 : List ByteArray) (l1 : List ByteArray) : Option (Bool) := bV.l0 k l0 l1 0
theorem bV.calls (k : Nat) (A0 : Option Addr) (c0 : Nat) (l0 : List ByteArray) (A1 : Option Addr) (c1 : Nat) (l1 : List ByteArray) (r : Bool) (w : World) (mO : Kd.C Kd.string w A0 l0.length l0) (nE : l0.length ≤ c0) (sG : Kd.C Kd.string w A1 l1.length l1) (nY : l1.length ≤ c1) (h : bV.f k l0 l1 = some r) :
  Calls Tryz.prog 52 #[.slice A0 l0.length c0, .slice A1 l1.length c1] w fun e w' => e = .returned (.bool r) ∧ jA w w' := by
 obtain ⟨lH, uR⟩ := mZ2 mO nE
 obtain ⟨rU, rW⟩ := mZ2 sG nY
 clear mO nE sG nY
 unfold bV.f at h
 have H := h
 clear h
 have H' := am H
 repeat clear H
 go_enter Tryz.func52, Tryz.ntmps52
 go_wp2
 repeat (go_quiet (fail); try go_wp2)
 go_loopg [5] k (fun kq v5 w' => ∃ (dK : Int), v5 = .int .i64 dK ∧ aD (bV.l0 kq l0 l1 dK = some r) ∧ aD (kq ≤ k) ∧ jA w w')
 case atStart => exact ⟨(0), eS, H', ⟨Nat.le_refl _⟩, jI⟩
 clear H'
 try clear c1
 obtain ⟨dK, rfl, HA, HK1, ⟨m1, rfl⟩⟩ := hrel
 cases gk with
 | zero => exact absurd HA.out (by simp [bV.l0])
 | succ k1 =>
  have H := HA.out
  clear HA
  simp only [bV.l0] at H
  refine ic H ?_ ?_ <;> clear H <;> intro FP H
  obtain ⟨zQ, H⟩ := cN H
  obtain ⟨wE, A5, H⟩ := bd H
  refine tC H ?_ ?_ <;> clear H <;> intro c6 H <;> subst c6
  by_cases c7 : dK > 0
  rw [if_pos c7] at H
  have NV : decide (0 < dK) = true := decide_eq_true c7
  clear c7
  obtain ⟨ji8, hji8⟩ : ∃ j_ : Int, (wrap64 (dK - 1)) = j_ := ⟨_, rfl⟩
  replace H : (if 0 ≤ (ji8) then (if (ji8) < (l0.length : Int) then (if ((Op.bytesLess ((rdOf ByteArray.empty l0 (ji8)).toList) ((rdOf ByteArray.empty l0 dK).toList)) = true) then (bV.l0 k1 l0 l1 (wrap64 (dK + 1))) else (some false)) else (none)) else (none)) = some r := by first | (rw [hji8] at H; exact H) | (simp only [hji8] at H ⊢; exact H)
  (try rw [hji8] at A5)
  have hji8w : (IntKind.i64.wrap (dK - 1)) = ji8 := (rZ _).trans hji8
  obtain ⟨I2, H⟩ := cN H
  obtain ⟨yI, H⟩ := cN H
  refine tC H ?_ ?_ <;> clear H <;> intro C9 H
  have H' := am H
  repeat clear H
  obtain ⟨jK, nD, kW, xZ, y6⟩ := aS lH b0 dK
  cases nD
  have oh := trivial
  rotate_left
  obtain rfl := Option.some.inj H
  repeat clear H
  obtain ⟨jK, nD, kW, xZ, y6⟩ := aS lH b0 dK
  cases nD
  have oh := trivial
  rotate_left
  rw [if_neg c7] at H
  have NV : decide (0 < dK) = false := decide_eq_false c7
  clear c7
  have H' := am H
  repeat clear H
  obtain ⟨jK, nD, kW, xZ, y6⟩ := aS lH b0 dK
  cases nD
  have um := trivial
  rotate_left
  obtain rfl := Option.some.inj H
  repeat clear H
  obtain ⟨jK, nD, kW, xZ, y6⟩ := aS lH b0 dK
  cases nD
  have un := trivial
  rotate_left
  obtain rfl := Option.some.inj H
  repeat clear H
  rotate_left
  all_goals
   go_wp2_with (first | (go_at_call 59; revert oh; intro oh; revert A5; intro A5; refine cM (cZ.calls k1 _ _ l1 (rdOf ByteArray.empty l0 dK) true _ (pC rU.1) rW.1 A5.out) ?_; rintro w' ⟨nd, rfl⟩; (try exact dR); obtain ⟨lM, sN, pH, G9, GB⟩ := aS lH b0 (ji8); obtain rfl : jK = lM := (by injection sN); obtain ⟨kK, sO, pI, GA, GC⟩ := aS lH b0 dK; obtain rfl : jK = kK := (by injection sO); clear A5) | (go_at_call 59; revert um; intro um; revert A5; intro A5; refine cM (cZ.calls k1 _ _ l1 (rdOf ByteArray.empty l0 dK) true _ (pC rU.1) rW.1 A5.out) ?_; rintro w' ⟨nd, rfl⟩; (try exact dR); clear A5) | (go_at_call 59; revert un; intro un; revert A5; intro A5; refine cM (cZ.calls k1 _ _ l1 (rdOf ByteArray.empty l0 dK) false _ (pC rU.1) rW.1 A5.out) ?_; rintro w' ⟨nd, rfl⟩; (try exact dR); clear A5))
  ·repeat (go_quiet (first | (go_at_call 59; refine cM (cZ.calls k1 _ _ l1 (rdOf ByteArray.empty l0 dK) true _ (pC rU.1) rW.1 A5.out) ?_; rintro w' ⟨nd, rfl⟩; (try exact dR); obtain ⟨lM, sN, pH, G9, GB⟩ := aS lH b0 (ji8); obtain rfl : jK = lM := (by injection sN); obtain ⟨kK, sO, pI, GA, GC⟩ := aS lH b0 dK; obtain rfl : jK = kK := (by injection sO))); try go_wp2_with (first | (go_at_call 59; refine cM (cZ.calls k1 _ _ l1 (rdOf ByteArray.empty l0 dK) true _ (pC rU.1) rW.1 A5.out) ?_; rintro w' ⟨nd, rfl⟩; (try exact dR); obtain ⟨lM, sN, pH, G9, GB⟩ := aS lH b0 (ji8); obtain rfl : jK = lM := (by injection sN); obtain ⟨kK, sO, pI, GA, GC⟩ := aS lH b0 dK; obtain rfl : jK = kK := (by injection sO))))
   go_roundg k1
   case measure => have := HK1.out; omega
   case rel => exact ⟨(wrap64 (dK + 1)), eS, H', ⟨by have := HK1.out; omega⟩, jI⟩
  ·repeat (go_quiet (first | (go_at_call 59; refine cM (cZ.calls k1 _ _ l1 (rdOf ByteArray.empty l0 dK) true _ (pC rU.1) rW.1 A5.out) ?_; rintro w' ⟨nd, rfl⟩; (try exact dR); obtain ⟨lM, sN, pH, G9, GB⟩ := aS lH b0 (ji8); obtain rfl : jK = lM := (by injection sN); obtain ⟨kK, sO, pI, GA, GC⟩ := aS lH b0 dK; obtain rfl : jK = kK := (by injection sO))); try go_wp2_with (first | (go_at_call 59; refine cM (cZ.calls k1 _ _ l1 (rdOf ByteArray.empty l0 dK) true _ (pC rU.1) rW.1 A5.out) ?_; rintro w' ⟨nd, rfl⟩; (try exact dR); obtain ⟨lM, sN, pH, G9, GB⟩ := aS lH b0 (ji8); obtain rfl : jK = lM := (by injection sN); obtain ⟨kK, sO, pI, GA, GC⟩ := aS lH b0 dK; obtain rfl : jK = kK := (by injection sO))))
   go_ret
   exact ⟨by first | rfl | (simp; done) | (simp only [← hji8] <;> (first | rfl | simp)) | (simp [*]; done), jI⟩
  ·repeat (go_quiet (first | (go_at_call 59; refine cM (cZ.calls k1 _ _ l1 (rdOf ByteArray.empty l0 dK) true _ (pC rU.1) rW.1 A5.out) ?_; rintro w' ⟨nd, rfl⟩; (try exact dR))); try go_wp2_with (first | (go_at_call 59; refine cM (cZ.calls k1 _ _ l1 (rdOf ByteArray.empty l0 dK) true _ (pC rU.1) rW.1 A5.out) ?_; rintro w' ⟨nd, rfl⟩; (try exact dR))))
   go_roundg k1
   case measure => have := HK1.out; omega
   case rel => exact ⟨(wrap64 (dK + 1)), eS, H', ⟨by have := HK1.out; omega⟩, jI⟩
  ·repeat (go_quiet (first | (go_at_call 59; refine cM (cZ.calls k1 _ _ l1 (rdOf ByteArray.empty l0 dK) false _ (pC rU.1) rW.1 A5.out) ?_; rintro w' ⟨nd, rfl⟩; (try exact dR))); try go_wp2_with (first | (go_at_call 59; refine cM (cZ.calls k1 _ _ l1 (rdOf ByteArray.empty l0 dK) false _ (pC rU.1) rW.1 A5.out) ?_; rintro w' ⟨nd, rfl⟩; (try exact dR))))
   go_ret
   exact ⟨by first | rfl | (simp; done) | (simp [*]; done), jI⟩
  ·repeat (go_quiet (fail); try go_wp2)
   go_ret
   exact ⟨by first | rfl | (simp; done) | (simp [*]; done), jI⟩
def dW.l0 : Nat → List ByteArray → List ByteArray → Int → Option (Bool)
 | 0, _, _, _ => none
 | k + 1, b, c, a => if a < (b.length : Int) then (if 0 ≤ a then ((cZ.f k c (rdOf ByteArray.empty b a)).bind fun d => (if d = true then (some true) else (dW.l0 k b c (wrap64 (a + 1))))) else (none)) else (some false)
def dW.f (k : Nat) (l0 : List ByteArray) (l1 : List ByteArray) : Option (Bool) := dW.l0 k l0 l1 0
theorem dW.calls (k : Nat) (A0 : Option Addr) (c0 : Nat) (l0 : List ByteArray) (A1 : Option Addr) (c1 : Nat) (l1 : List ByteArray) (r : Bool) (w : World) (mO : Kd.C Kd.string w A0 l0.length l0) (nE : l0.length ≤ c0) (sG : Kd.C Kd.string w A1 l1.length l1) (nY : l1.length ≤ c1) (h : dW.f k l0 l1 = some r) :
  Calls Tryz.prog 53 #[.slice A0 l0.length c0, .slice A1 l1.length c1] w fun e w' => e = .returned (.bool r) ∧ jA w w' := by
 obtain ⟨lH, uR⟩ := mZ2 mO nE
 obtain ⟨rU, rW⟩ := mZ2 sG nY
 clear mO nE sG nY
 unfold dW.f at h
 have H := h
 clear h
 have H' := am H
 repeat clear H
 go_enter Tryz.func53, Tryz.ntmps53
 go_wp2
 go_loopg [5] k (fun kq v5 w' => ∃ (dK : Int), v5 = .int .i64 dK ∧ aD (dW.l0 kq l0 l1 dK = some r) ∧ aD (kq ≤ k) ∧ jA w w')
 case atStart => exact ⟨(0), eS, H', ⟨Nat.le_refl _⟩, jI⟩
 clear H'
 try clear c1
 obtain ⟨dK, rfl, HA, HK1, ⟨m1, rfl⟩⟩ := hrel
 cases gk with
 | zero => exact absurd HA.out (by simp [dW.l0])
 | succ k1 =>
  have H := HA.out
  clear HA
  simp only [dW.l0] at H
  refine ic H ?_ ?_ <;> clear H <;> intro FP H
  ·obtain ⟨zQ, H⟩ := cN H
   obtain ⟨wE, A5, H⟩ := bd H
   refine tC H ?_ ?_ <;> clear H <;> intro c6 H <;> subst c6
   ·obtain rfl := Option.some.inj H
    repeat clear H
    obtain ⟨jK, nD, kW, xZ, y6⟩ := aS lH b0 dK
    cases nD
    go_wp2_with (first | ((with_reducible refine gC 59 ?_); refine cQ (some 17) Tryz.func59 (cZ.calls k1 _ _ l1 (rdOf ByteArray.empty l0 dK) true _ (pC rU.1) rW.1 A5.out) ?_; rintro w' ⟨nd, rfl⟩))
    go_ret
    exact ⟨by first | rfl | (simp; done) | (simp [*]; done), jI⟩
   ·have H' := am H
    repeat clear H
    obtain ⟨jK, nD, kW, xZ, y6⟩ := aS lH b0 dK
    cases nD
    go_wp2_with (first | ((with_reducible refine gC 59 ?_); refine cQ (some 17) Tryz.func59 (cZ.calls k1 _ _ l1 (rdOf ByteArray.empty l0 dK) false _ (pC rU.1) rW.1 A5.out) ?_; rintro w' ⟨nd, rfl⟩))
    go_roundg k1
    case measure => have := HK1.out; omega
    case rel => exact ⟨(wrap64 (dK + 1)), eS, H', ⟨by have := HK1.out; omega⟩, jI⟩
  ·obtain rfl := Option.some.inj H
   repeat clear H
   go_wp2
   go_ret
   exact ⟨by first | rfl | (simp; done) | (simp [*]; done), jI⟩
def gP.l0 : Nat → List ByteArray → List ByteArray → List ByteArray → Int → Int → Option (Bool)
 | 0, _, _, _, _, _ => none
 | k + 1, c, d, b, e, a => if a < e then (if 0 ≤ a then (if a < (b.length : Int) then ((aW.f k d (rdOf ByteArray.empty b a)).bind fun g => (if g = true then (if a > 0 then (if 0 ≤ (wrap64 (a - 1)) then (if (wrap64 (a - 1)) < (c.length : Int) then (if ((Op.bytesLess ((rdOf ByteArray.empty c (wrap64 (a - 1))).toList) ((rdOf ByteArray.empty b a).toList)) = true) then (gP.l0 k c d b e (wrap64 (a + 1))) else (some false)) else (none)) else (none)) else (gP.l0 k c d b e (wrap64 (a + 1)))) else (some false))) else (none)) else (none)) else (some true)
def gP.f (k : Nat) (l0 : List ByteArray) (l1 : List ByteArray) : Option (Bool) := gP.l0 k l0 l1 l0 (l0.length : Int) 0
theorem gP.calls (k : Nat) (A0 : Option Addr) (c0 : Nat) (l0 : List ByteArray) (A1 : Option Addr) (c1 : Nat) (l1 : List ByteArray) (r : Bool) (w : World) (mO : Kd.C Kd.string w A0 l0.length l0) (nE : l0.length ≤ c0) (sG : Kd.C Kd.string w A1 l1.length l1) (nY : l1.length ≤ c1) (h : gP.f k l0 l1 = some r) :
  Calls Tryz.prog 65 #[.slice A0 l0.length c0, .slice A1 l1.length c1] w fun e w' => e = .returned (.bool r) ∧ jA w w' := by
 obtain ⟨lH, uR⟩ := mZ2 mO nE
 obtain ⟨rU, rW⟩ := mZ2 sG nY
 clear mO nE sG nY
 unfold gP.f at h
 have H := h
 clear h
 have H' := am H
 repeat clear H
 go_enter Tryz.func65, Tryz.ntmps65
 go_wp2
 go_loopg [9] k (fun kq v9 w' => ∃ (BZ : Int), v9 = .int .i64 BZ ∧ aD (gP.l0 kq l0 l1 l0 (l0.length : Int) BZ = some r) ∧ aD (kq ≤ k) ∧ jA w w')
 case atStart => exact ⟨(0), eS, H', ⟨Nat.le_refl _⟩, jI⟩
 clear H'
 try clear c1
 obtain ⟨BZ, rfl, HA, HK1, ⟨m1, rfl⟩⟩ := hrel
 cases gk with
 | zero => exact absurd HA.out (by simp [gP.l0])
 | succ k1 =>
  have H := HA.out
  clear HA
  simp only [gP.l0] at H
  refine ic H ?_ ?_ <;> clear H <;> intro FP H
  obtain ⟨zQ, H⟩ := cN H
  obtain ⟨AZ, H⟩ := cN H
  obtain ⟨wE, A6, H⟩ := bd H
  refine tC H ?_ ?_ <;> clear H <;> intro c7 H <;> subst c7
  by_cases c8 : BZ > 0
  rw [if_pos c8] at H
  have EH : decide (0 < BZ) = true := decide_eq_true c8
  clear c8
  obtain ⟨ji9, hji9⟩ : ∃ j_ : Int, (wrap64 (BZ - 1)) = j_ := ⟨_, rfl⟩
  replace H : (if 0 ≤ (ji9) then (if (ji9) < (l0.length : Int) then (if ((Op.bytesLess ((rdOf ByteArray.empty l0 (ji9)).toList) ((rdOf ByteArray.empty l0 BZ).toList)) = true) then (gP.l0 k1 l0 l1 l0 (l0.length : Int) (wrap64 (BZ + 1))) else (some false)) else (none)) else (none)) = some r := by first | (rw [hji9] at H; exact H) | (simp only [hji9] at H ⊢; exact H)
  (try rw [hji9] at A6)
  have hji9w : (IntKind.i64.wrap (BZ - 1)) = ji9 := (rZ _).trans hji9
  obtain ⟨yI, H⟩ := cN H
  obtain ⟨C9, H⟩ := cN H
  refine tC H ?_ ?_ <;> clear H <;> intro NT H
  have H' := am H
  repeat clear H
  obtain ⟨jK, nD, kW, xZ, y6⟩ := aS lH b0 BZ
  cases nD
  have Uf := trivial
  rotate_left
  obtain rfl := Option.some.inj H
  repeat clear H
  obtain ⟨jK, nD, kW, xZ, y6⟩ := aS lH b0 BZ
  cases nD
  have Uf := trivial
  rotate_left
  rw [if_neg c8] at H
  have EH : decide (0 < BZ) = false := decide_eq_false c8
  clear c8
  have H' := am H
  repeat clear H
  obtain ⟨jK, nD, kW, xZ, y6⟩ := aS lH b0 BZ
  cases nD
  have bc := trivial
  rotate_left
  obtain rfl := Option.some.inj H
  repeat clear H
  obtain ⟨jK, nD, kW, xZ, y6⟩ := aS lH b0 BZ
  cases nD
  have bf := trivial
  rotate_left
  obtain rfl := Option.some.inj H
  repeat clear H
  rotate_left
  all_goals
   go_wp2_with (first | ((with_reducible refine gC 42 ?_); revert Uf; intro Uf; refine cQ (some 16) Tryz.func42 (aW.calls k1 _ _ l1 (rdOf ByteArray.empty l0 BZ) true _ (pC rU.1) rW.1 A6.out) ?_; rintro w' ⟨nd, rfl⟩; obtain ⟨lM, sN, pH, G9, GB⟩ := aS lH b0 (ji9); obtain rfl : jK = lM := (by injection sN)) | ((with_reducible refine gC 42 ?_); revert bc; intro bc; refine cQ (some 16) Tryz.func42 (aW.calls k1 _ _ l1 (rdOf ByteArray.empty l0 BZ) true _ (pC rU.1) rW.1 A6.out) ?_; rintro w' ⟨nd, rfl⟩) | ((with_reducible refine gC 42 ?_); revert bf; intro bf; refine cQ (some 16) Tryz.func42 (aW.calls k1 _ _ l1 (rdOf ByteArray.empty l0 BZ) false _ (pC rU.1) rW.1 A6.out) ?_; rintro w' ⟨nd, rfl⟩))
  ·go_roundg k1
   case measure => have := HK1.out; omega
   case rel => exact ⟨(wrap64 (BZ + 1)), eS, H', ⟨by have := HK1.out; omega⟩, jI⟩
  ·go_ret
   exact ⟨by first | rfl | (simp; done) | (simp only [← hji9] <;> (first | rfl | simp)) | (simp [*]; done), jI⟩
  ·go_roundg k1
   case measure => have := HK1.out; omega
   case rel => exact ⟨(wrap64 (BZ + 1)), eS, H', ⟨by have := HK1.out; omega⟩, jI⟩
  ·go_ret
   exact ⟨by first | rfl | (simp; done) | (simp [*]; done), jI⟩
  ·go_ret
   exact ⟨by first | rfl | (simp; done) | (simp [*]; done), jI⟩
def gS (l : List ByteArray) (i : Nat) : ByteArray := l.getD i ByteArray.empty
def ltB (a b : ByteArray) : Bool := Op.bytesLess a.toList b.toList
theorem kY (l : List ByteArray) (i : Nat) : rdOf ByteArray.empty l (i : Int) = gS l i := Eh _ _ _
def wB (l all : List ByteArray) (j : Nat) : Bool := hasS all (gS l j) && (decide (j = 0) || ltB (gS l (j - 1)) (gS l j))
def kG (l all : List ByteArray) : Bool := allR (wB l all) l.length 0
def kH (a b : List ByteArray) : Bool := a.any (hasS b)
def yV (l : List ByteArray) (j : Nat) : Bool := qU (gS l j) && (decide (j = 0) || ltB (gS l (j - 1)) (gS l j))
def uH (l : List ByteArray) : Bool := decide (l.length ≤ 8) && allR (yV l) l.length 0
theorem zM {α : Type} {l : List ByteArray} {i : Nat} (hi : i < l.length) (hl : l.length ≤ 9223372036854775807) {a b : Nat → Option α} {r : α}
  (H1 : (decide (i = 0) || ltB (gS l (i - 1)) (gS l i)) = true → Ev a r) (H2 : (decide (i = 0) || ltB (gS l (i - 1)) (gS l i)) = false → Ev b r) :
  Ev (fun k => if (i : Int) > 0 then (if 0 ≤ (wrap64 ((i : Int) - 1)) then (if (wrap64 ((i : Int) - 1)) < (l.length : Int) then (if ((Op.bytesLess ((rdOf ByteArray.empty l (wrap64 ((i : Int) - 1))).toList) ((rdOf ByteArray.empty l (i : Int)).toList)) = true) then a k else b k) else none) else none) else a k) r := by
 by_cases h0 : i = 0
 ·exact Ev.neg (by omega) (H1 (by simp [h0]))
 rw [RV (by omega) (by omega), kY, kY]
 refine Ev.pos (by omega) (Ev.pos (by omega) (Ev.pos (by omega) (Ev.test _ (fun h => H1 ?_) (fun h => H2 ?_))))
 ·simp only [ltB, h, Bool.or_true]
 simp only [ltB, h, h0, decide_false, Bool.or_false]
theorem UR (n low high : Int) : tF.f n low high = some (decide (low ≤ n) && decide (n ≤ high)) := by
 unfold tF.f
 by_cases h : n ≥ low
 ·rw [if_pos h, show decide (low ≤ n) = true from decide_eq_true h]; rfl
 rw [if_neg h, show decide (low ≤ n) = false from decide_eq_false h]; rfl
theorem rO (s : ByteArray) : Ev (fun k => bT.f k s) (qU s) := by
 unfold bT.f
 simp only [UR, Option.bind_some]
 refine Ev.test _ (fun h => ?_) (fun h => ?_)
 ·simp only [Bool.and_eq_true, decide_eq_true_eq] at h
  have E := Ev.MW (f := fun k i => bT.l0 k s (i : Int)) (P := fun j => okc (bt s (j : Int))) s.size
    (by refine Ev.step (fun k => bT.l0.eq_2 s _ k) ?_
        exact Ev.neg (by omega) (Ev.ret rfl))
    (fun i r hi hp H => by
      refine Ev.step (fun k => bT.l0.eq_2 s _ k) ?_
      refine Ev.pos (by omega) (Ev.pos (by omega) ?_)
      simp only [U8]
      rw [iQ hi (by omega)]
      exact Ev.pos hp H)
    (fun i hi hp => by
      refine Ev.step (fun k => bT.l0.eq_2 s _ k) ?_
      refine Ev.pos (by omega) (Ev.pos (by omega) ?_)
      simp only [U8]
      exact Ev.neg (by simp [hp]) (Ev.ret rfl)) 0 (by omega)
  refine Ev.sub E ?_
  unfold qU allR
  rw [show decide (1 ≤ s.size) = true from decide_eq_true (by omega), show decide (s.size ≤ 8) = true from decide_eq_true (by omega)]
  rfl
 refine Ev.ret ?_
 unfold qU
 by_cases h1 : 1 ≤ s.size
 ·by_cases h2 : s.size ≤ 8
  ·have : (decide ((1 : Int) ≤ (s.size : Int)) && decide ((s.size : Int) ≤ 8)) = true := by simp; omega
   rw [this] at h; cases h
  simp [h2]
 simp [h1]
theorem lF (l : List ByteArray) (s : ByteArray) (hl : l.length ≤ 9223372036854775807) : Ev (fun k => cZ.f k l s) (hasS l s) := by
 unfold cZ.f
 have E := Ev.Cb (f := fun k i => cZ.l0 k l s (i : Int)) (P := fun j => (fun x : ByteArray => s.toList == x.toList) (l.getD j ByteArray.empty)) l.length
   (by refine Ev.step (fun k => cZ.l0.eq_2 l s _ k) ?_
       exact Ev.neg (by omega) (Ev.ret rfl))
   (fun i r hi hp H => by
     refine Ev.step (fun k => cZ.l0.eq_2 l s _ k) ?_
     refine Ev.pos (by omega) (Ev.pos (by omega) ?_)
     rw [iQ hi hl, kY]
     exact Ev.neg (fun e => by simp [← e, gS] at hp) H)
   (fun i hi hp => by
     refine Ev.step (fun k => cZ.l0.eq_2 l s _ k) ?_
     refine Ev.pos (by omega) (Ev.pos (by omega) ?_)
     rw [kY]
     exact Ev.pos (beq_iff_eq.mp (show (s.toList == (gS l i).toList) = true from hp)).symm (Ev.ret rfl)) 0 (by omega)
 exact Ev.sub E (QT (fun x : ByteArray => s.toList == x.toList) ByteArray.empty l)
theorem vQ (l : List ByteArray) (s : ByteArray) (hl : l.length ≤ 9223372036854775807) : Ev (fun k => aW.f k l s) (hasS l s) :=
  Ev.of (aW.mono l s) (yJ l s hl)
theorem Cf (s : ByteArray) : Ev (fun k => dC.f k s) (qU s) := Ev.of (dC.mono s) (Ce s)
theorem nU (l all : List ByteArray) (hl : l.length ≤ 9223372036854775807) (ha : all.length ≤ 9223372036854775807) : Ev (fun k => bV.f k l all) (kG l all) := by
 unfold bV.f
 refine Ev.MW (f := fun k i => bV.l0 k l all (i : Int)) (P := wB l all) l.length
   (by refine Ev.step (fun k => bV.l0.eq_2 l all _ k) ?_
       exact Ev.neg (by omega) (Ev.ret rfl))
   (fun i r hi hp H => by
     simp only [wB, Bool.and_eq_true] at hp
     refine Ev.step (fun k => bV.l0.eq_2 l all _ k) ?_
     refine Ev.pos (by omega) (Ev.pos (by omega) (Ev.bind (lF all _ ha) ?_))
     rw [kY, hp.1]
     refine Ev.pos rfl (zM hi hl (fun _ => ?_) (fun h => by rw [hp.2] at h; cases h))
     rw [iQ hi hl]
     exact H)
   (fun i hi hp => by
     refine Ev.step (fun k => bV.l0.eq_2 l all _ k) ?_
     refine Ev.pos (by omega) (Ev.pos (by omega) (Ev.bind (lF all _ ha) ?_))
     rw [kY]
     refine Ev.test _ (fun h1 => zM hi hl (fun h2 => ?_) (fun h => Ev.ret rfl)) (fun _ => Ev.ret rfl)
     simp only [wB, h1, h2, Bool.and_true] at hp
     cases hp) 0 (by omega)
theorem uY (l all : List ByteArray) (hl : l.length ≤ 9223372036854775807) (ha : all.length ≤ 9223372036854775807) : Ev (fun k => gP.f k l all) (kG l all) := by
 unfold gP.f
 refine Ev.MW (f := fun k i => gP.l0 k l all l (l.length : Int) (i : Int)) (P := wB l all) l.length
   (by refine Ev.step (fun k => gP.l0.eq_2 l all l _ _ k) ?_
       exact Ev.neg (by omega) (Ev.ret rfl))
   (fun i r hi hp H => by
     simp only [wB, Bool.and_eq_true] at hp
     refine Ev.step (fun k => gP.l0.eq_2 l all l _ _ k) ?_
     refine Ev.pos (by omega) (Ev.pos (by omega) (Ev.pos (by omega) (Ev.bind (vQ all _ ha) ?_)))
     rw [kY, hp.1]
     refine Ev.pos rfl (zM hi hl (fun _ => ?_) (fun h => by rw [hp.2] at h; cases h))
     rw [iQ hi hl]
     exact H)
   (fun i hi hp => by
     refine Ev.step (fun k => gP.l0.eq_2 l all l _ _ k) ?_
     refine Ev.pos (by omega) (Ev.pos (by omega) (Ev.pos (by omega) (Ev.bind (vQ all _ ha) ?_)))
     rw [kY]
     refine Ev.test _ (fun h1 => zM hi hl (fun h2 => ?_) (fun h => Ev.ret rfl)) (fun _ => Ev.ret rfl)
     simp only [wB, h1, h2, Bool.and_true] at hp
     cases hp) 0 (by omega)
theorem GK (l : List ByteArray) : Ev (fun k => fD.f k l) (uH l) := by
 unfold fD.f uH
 refine Ev.prop (fun h => Ev.ret (by rw [show decide (l.length ≤ 8) = false from decide_eq_false (by omega)]; rfl)) (fun h => ?_)
 rw [show decide (l.length ≤ 8) = true from decide_eq_true (by omega), Bool.true_and]
 have hl : l.length ≤ 9223372036854775807 := by omega
 refine Ev.MW (f := fun k i => fD.l0 k l (i : Int)) (P := yV l) l.length
   (by refine Ev.step (fun k => fD.l0.eq_2 l _ k) ?_
       exact Ev.neg (by omega) (Ev.ret rfl))
   (fun i r hi hp H => by
     simp only [yV, Bool.and_eq_true] at hp
     refine Ev.step (fun k => fD.l0.eq_2 l _ k) ?_
     refine Ev.pos (by omega) (Ev.pos (by omega) (Ev.bind (rO _) ?_))
     rw [kY, hp.1]
     refine Ev.pos rfl (zM hi hl (fun _ => ?_) (fun h => by rw [hp.2] at h; cases h))
     rw [iQ hi hl]
     exact H)
   (fun i hi hp => by
     refine Ev.step (fun k => fD.l0.eq_2 l _ k) ?_
     refine Ev.pos (by omega) (Ev.pos (by omega) (Ev.bind (rO _) ?_))
     rw [kY]
     refine Ev.test _ (fun h1 => zM hi hl (fun h2 => ?_) (fun h => Ev.ret rfl)) (fun _ => Ev.ret rfl)
     simp only [yV, h1, h2, Bool.and_true] at hp
     cases hp) 0 (by omega)
theorem sI (a b : List ByteArray) (ha : a.length ≤ 9223372036854775807) (hb : b.length ≤ 9223372036854775807) : Ev (fun k => dW.f k a b) (kH a b) := by
 unfold dW.f
 have E := Ev.Cb (f := fun k i => dW.l0 k a b (i : Int)) (P := fun j => hasS b (a.getD j ByteArray.empty)) a.length
   (by refine Ev.step (fun k => dW.l0.eq_2 a b _ k) ?_
       exact Ev.neg (by omega) (Ev.ret rfl))
   (fun i r hi hp H => by
     refine Ev.step (fun k => dW.l0.eq_2 a b _ k) ?_
     refine Ev.pos (by omega) (Ev.pos (by omega) (Ev.bind (lF b _ hb) ?_))
     rw [kY, iQ hi ha]
     exact Ev.neg (by rw [show hasS b (gS a i) = false from hp]; simp) H)
   (fun i hi hp => by
     refine Ev.step (fun k => dW.l0.eq_2 a b _ k) ?_
     refine Ev.pos (by omega) (Ev.pos (by omega) (Ev.bind (lF b _ hb) ?_))
     rw [kY]
     exact Ev.pos hp (Ev.ret rfl)) 0 (by omega)
 exact Ev.sub E (QT (hasS b) ByteArray.empty a)
mutual
def aG.j0 : Nat → Bool → List ByteArray → List (S66) → Option (Bool)
 | 0, _, _, _ => none
 | k + 1, a, b, c => if a = true then (some false) else (aG.l0 k 0 b c)
def aG.l0 : Nat → Int → List ByteArray → List (S66) → Option (Bool)
 | 0, _, _, _ => none
 | k + 1, a, c, b => if a < (b.length : Int) then (if 0 ≤ a then ((bT.f k ((aA b a).f0)).bind fun d => (if d = true then (if a > 0 then (if 0 ≤ (wrap64 (a - 1)) then (if (wrap64 (a - 1)) < (b.length : Int) then (if ((Op.bytesLess (((aA b (wrap64 (a - 1))).f0).toList) (((aA b a).f0).toList)) = true) then ((bV.f k ((aA b a).f2) c).bind fun e => (if e = true then ((bV.f k ((aA b a).f1) ((aA b a).f2)).bind fun g => (aG.j2 k a (!g) c b ((aA b a).f0) ((aA b a).f1) ((aA b a).f2))) else (aG.j2 k a true c b ((aA b a).f0) ((aA b a).f1) ((aA b a).f2)))) else (aG.j2 k a true c b ((aA b a).f0) ((aA b a).f1) ((aA b a).f2))) else (none)) else (none)) else ((bV.f k ((aA b a).f2) c).bind fun h => (if h = true then ((bV.f k ((aA b a).f1) ((aA b a).f2)).bind fun i => (aG.j2 k a (!i) c b ((aA b a).f0) ((aA b a).f1) ((aA b a).f2))) else (aG.j2 k a true c b ((aA b a).f0) ((aA b a).f1) ((aA b a).f2))))) else (aG.j2 k a true c b ((aA b a).f0) ((aA b a).f1) ((aA b a).f2)))) else (none)) else (some true)
def aG.j2 : Nat → Int → Bool → List ByteArray → List (S66) → ByteArray → List ByteArray → List ByteArray → Option (Bool)
 | 0, _, _, _, _, _, _, _ => none
 | k + 1, a, b, c, d, e, f, g => if b = true then (some false) else (aG.l1 k a 0 c d e f g)
def aG.l1 : Nat → Int → Int → List ByteArray → List (S66) → ByteArray → List ByteArray → List ByteArray → Option (Bool)
 | 0, _, _, _, _, _, _, _ => none
 | k + 1, c, a, d, b, g, e, h => if a < c then (if 0 ≤ a then (if a < (b.length : Int) then ((dW.f k e ((aA b a).f1)).bind fun i => (if i = true then (some false) else (aG.l1 k c (wrap64 (a + 1)) d b g e h))) else (none)) else (none)) else (aG.l0 k (wrap64 (c + 1)) d b)
end
def aG.f (k : Nat) (aQ : List ByteArray) (aE : List (S66)) : Option (Bool) := (fD.f k aQ).bind fun a => (if a = true then (aG.j0 k (decide ((aE.length : Int) > 5)) aQ aE) else (aG.j0 k true aQ aE))
def aG.T7 : Bool × List (List Nat × List Nat) := (true, [([], []), ([0], [0]), ([1], [1]), ([2], [2]), ([3, 2], [3]), ([4], [4]), ([5, 4], [4, 5]), ([6, 4, 4], [4, 6]), ([7], [7]), ([8, 7], [7, 8]), ([7], [7]), ([10, 7], [7, 10]), ([9, 11, 7], [7, 9, 11]), ([12, 7], [7, 12]), ([13, 7], [7, 13]), ([7], [7]), ([15, 7], [7, 15]), ([14, 16, 7], [7, 14, 16]), ([7, 17, 4], [4, 7, 17]), ([4, 18], [4, 18]), ([19, 7], [19]), ([20], [20]), ([21, 20], [20, 21]), ([20], [20]), ([23, 20], [20, 23]), ([22, 24, 20, 20], [20, 22, 24]), ([25, 20], [20, 25]), ([20, 26], [20, 26]), ([27, 25], [27]), ([28], [28]), ([29, 28], [28, 29]), ([28], [28]), ([31, 28], [28, 31]), ([30, 32, 28, 28], [28, 30, 32]), ([33, 28], [28, 33]), ([28, 34], [28, 34])])
def aG.B7 : List Nat := [0, 1, 3, 7, 15, 31, 63, 127, 255, 511, 255, 1279, 4095, 8191, 16383, 255, 33023, 131071, 262143, 524287, 1048575, 2097151, 4194303, 2097151, 10485759, 33554431, 67108863, 134217727, 268435455, 536870911, 1073741823, 536870911, 2684354559, 8589934591, 17179869183, 34359738367]
theorem aG.tab7 : rtab .any (opsOf Tryz.f21 7) = aG.T7 := by kernel_rfl
theorem aG.KV : nV aG.T7.2 aG.B7 = true := by kernel_rfl
def aG.T12 : Bool × List (List Nat × List Nat) := (true, [([], []), ([0], [0]), ([], []), ([2], [2]), ([], []), ([3, 4], [3, 4]), ([5], [5]), ([6], [6]), ([1, 7], [1, 7])])
def aG.B12 : List Nat := [0, 1, 0, 4, 0, 28, 60, 124, 255]
theorem aG.Sn : rtab .any (opsOf Tryz.f21 12) = aG.T12 := by kernel_rfl
theorem aG.Ho : nV aG.T12.2 aG.B12 = true := by kernel_rfl
theorem aG.calls (k : Nat) (dD : Option Addr) (dE : Nat) (aQ : List ByteArray) (dS : Option Addr) (dB : Nat) (aE : List (S66)) (r : Bool) (w : World) (fL : Kd.C Kd.string w dD aQ.length aQ) (fJ : aQ.length ≤ dE) (fH : Kd.C k66 w dS aE.length aE) (fK : aE.length ≤ dB) (h : aG.f k aQ aE = some r) :
  Calls Tryz.prog 21 #[.agg #[.slice dD aQ.length dE, .slice dS aE.length dB]] w fun e w' => e = .returned (.bool r) ∧ Below w.heap.size w w' := by
 have hu31 := Tryz.underlying31
 have hu66 := Tryz.underlying66
 obtain ⟨cS, cO⟩ := mZ2 fL fJ
 obtain ⟨bE, dL⟩ := mZ2 fH fK
 clear fL fJ fH fK
 have HB := am (Below.refl w.heap.size w)
 unfold aG.f at h
 have H := h
 clear h
 have pK := am H
 clear H
 go_enter Tryz.func21, Tryz.ntmps21
 go_upto_region 1 with (first | ((with_reducible refine gD 1 ?_); (try (refine xN (by rfl) ?_; dsimp only)); refine bX 1 #[.slice dD aQ.length dE, .slice dS aE.length dB] 31 ?_; intro aZ hg w3 hbox hb; have aC := am hbox; have gU := am (nS : w.heap.size ≤ aZ); have iL := gU; replace HB := bS gL hb; clear hb hbox hg))
 (try simp only [Act.put, List.setIfInBounds_toArray, List.set_cons_zero, List.set_cons_succ])
 go_cut [15] (fun v15 wc => ∃ (kq : Nat) (Lo : Bool), v15 = .bool Lo ∧ aD (aG.j0 kq Lo aQ aE = some r) ∧ aD (kq ≤ k) ∧ aD (wc.heap[aZ]? = some (.cells #[(.slice dD aQ.length dE), (.slice dS aE.length dB)] 31 (0, 0))) ∧ aD (Below w.heap.size w wc))
 case first =>
  have H := pK.1
  clear pK
  obtain ⟨wE, A4, H⟩ := bd H
  refine tC H ?_ ?_ <;> clear H <;> intro c5 H <;> subst c5
  ·have H' := am H
   repeat clear H
   have Z6 := cz2 aC
   go_wp2_with (first | ((with_reducible refine gC 50 ?_); refine cQ (some 8) Tryz.func50 (fD.calls k _ _ aQ true _ (pB cS) cO.1 A4.out) ?_; rintro w' ⟨nd, rfl⟩))
   go_meet
   exact ⟨_, (decide ((aE.length : Int) > 5)), eS, H', ⟨by first | omega | exact Nat.le_refl _⟩, ⟨rB aC.1⟩, ⟨dQ⟩⟩
  have H' := am H
  repeat clear H
  have Z7 := cz2 aC
  go_wp2_with (first | ((with_reducible refine gC 50 ?_); refine cQ (some 8) Tryz.func50 (fD.calls k _ _ aQ false _ (pB cS) cO.1 A4.out) ?_; rintro w' ⟨nd, rfl⟩))
  go_meet
  exact ⟨_, (true), eS, H', ⟨by first | omega | exact Nat.le_refl _⟩, ⟨rB aC.1⟩, ⟨dQ⟩⟩
 clear pK
 obtain ⟨kq, Lo, rfl, HA, HJ1, aC, HB⟩ := hcut
 cases kq with
 | zero => exact absurd HA.out (by simp [aG.j0])
 | succ kj1 =>
  have H := HA.out
  clear HA
  simp only [aG.j0] at H
  refine tC H ?_ ?_ <;> (repeat clear H) <;> intro c8 H <;> subst c8
  ·obtain rfl := Option.some.inj H
   repeat clear H
   go_wp2
   go_ret
   exact ⟨eR, dQ⟩
  ·have H' := am H
   repeat clear H
   go_wp2
   go_loopg [3] kj1 (fun kq v3 w' => ∃ (gI : Int), v3 = .int .i64 gI ∧ aD (aG.l0 kq gI aQ aE = some r) ∧ aD (kq ≤ kj1) ∧ aD (w'.heap[aZ]? = some (.cells #[(.slice dD aQ.length dE), (.slice dS aE.length dB)] 31 (0, 0))) ∧ aD (Below w.heap.size w w'))
   case atStart => exact ⟨(0), eS, H', ⟨Nat.le_refl _⟩, ⟨rB aC.1⟩, ⟨dQ⟩⟩
   case round =>
    clear H'
    try clear c8
    obtain ⟨gI, rfl, HA, HK2, aC, HB⟩ := hrel
    cases gk with
    | zero => exact absurd HA.out (by simp [aG.l0])
    | succ k2 =>
     have H := HA.out
     clear HA
     simp only [aG.l0] at H
     refine ic H ?_ ?_ <;> clear H <;> intro I2 H
     ·obtain ⟨yI, H⟩ := cN H
      have Tw := am H
      clear H
      have Nk := cz2 aC
      obtain ⟨lM, vS, vX, vT, vY, sN, pH, IL, IM, sB, sA, vH, vF, G9, GB⟩ := aT66 bE HB gI
      cases sN
      go_upto_region 7 with (first | ((with_reducible refine gD 4 ?_); (try (refine xN (by rfl) ?_; dsimp only)); refine bX 4 #[.string (⟨#[]⟩ : ByteArray), .slice none 0 0, .slice none 0 0] 66 ?_; intro CT hg UZ hbox hb; have gX := am hbox; have Fz := am (vA : w.heap.size ≤ CT); have KJ := Fz; replace HB := bS dQ hb; have pQ := nL bJ hg; have JJ := nG bJ hg; replace aC := bB bJ hb; clear hb hbox hg; have Z14 := nZ1 JJ pQ; have dy := cz3 gX))
      (try simp only [Act.put, List.setIfInBounds_toArray, List.set_cons_zero, List.set_cons_succ])
      go_cut [63] (fun v63 wc => ∃ (kq : Nat) (ZO : Bool), v63 = .bool ZO ∧ aD (aG.j2 kq gI ZO aQ aE ((aA aE gI).f0) ((aA aE gI).f1) ((aA aE gI).f2) = some r) ∧ aD (kq ≤ k2) ∧ aD (wc.heap[aZ]? = some (.cells #[(.slice dD aQ.length dE), (.slice (some lM) aE.length dB)] 31 (0, 0))) ∧ aD (wc.heap[CT]? = some (.cells #[.string ((aA aE gI).f0), (.slice vS ((aA aE gI).f1).length vX), (.slice vT ((aA aE gI).f2).length vY)] 66 (0, 0))) ∧ aD (Below w.heap.size w wc))
      case first =>
       have H := Tw.1
       clear Tw
       obtain ⟨t105, V0, H⟩ := bd H
       refine tC H ?_ ?_ <;> clear H <;> intro Za H <;> subst Za
       ·by_cases Dc : gI > 0
        ·rw [if_pos Dc] at H
         have ET : decide (0 < gI) = true := decide_eq_true Dc
         clear Dc
         (first | rw [ET] | (simp only [rZ, xP]; rw [ET]) | skip)
         obtain ⟨ji19, hji19⟩ : ∃ j_ : Int, (wrap64 (gI - 1)) = j_ := ⟨_, rfl⟩
         replace H : (if 0 ≤ (ji19) then (if (ji19) < (aE.length : Int) then (if ((Op.bytesLess (((aA aE (ji19)).f0).toList) (((aA aE gI).f0).toList)) = true) then ((bV.f k2 ((aA aE gI).f2) aQ).bind fun dI => (if dI = true then ((bV.f k2 ((aA aE gI).f1) ((aA aE gI).f2)).bind fun US => (aG.j2 k2 gI (!US) aQ aE ((aA aE gI).f0) ((aA aE gI).f1) ((aA aE gI).f2))) else (aG.j2 k2 gI true aQ aE ((aA aE gI).f0) ((aA aE gI).f1) ((aA aE gI).f2)))) else (aG.j2 k2 gI true aQ aE ((aA aE gI).f0) ((aA aE gI).f1) ((aA aE gI).f2))) else (none)) else (none)) = some r := by first | (rw [hji19] at H; exact H) | (simp only [hji19] at H ⊢; exact H)
         (try rw [hji19] at V0)
         have hji19w : (IntKind.i64.wrap (gI - 1)) = ji19 := (rZ _).trans hji19
         obtain ⟨Rm, H⟩ := cN H
         obtain ⟨Rn, H⟩ := cN H
         refine tC H ?_ ?_ <;> clear H <;> intro Ro H
         ·obtain ⟨dI, S4, H⟩ := bd H
          refine tC H ?_ ?_ <;> clear H <;> intro VL H <;> subst VL
          ·obtain ⟨US, A25, H⟩ := bd H
           have H' := am H
           repeat clear H
           try go_wp2
           obtain ⟨Su, eW_⟩ := eW3 UZ CT (.string ((aA aE gI).f0)) (.slice vS ((aA aE gI).f1).length vX) (.slice vT ((aA aE gI).f2).length vY)
           rw [← eW_]
           replace aC := uF3 eW_ aC pQ
           replace gX := uP3 eW_ gX
           replace HB := uC3 eW_ HB KJ
           clear eW_
           replace aC := BD aC
           replace gX := BD gX
           replace HB := am (aU HB.1)
           obtain ⟨rX, mI, mM, oD, oI, BG, uB, uC, uD, rE, rF, rG, mV, p5, lK, wO, PU, J5⟩ := xG bE HB (ji19)
           obtain rfl : lM = rX := (by injection BG)
           refine sT [] 36 (uB3 gX (uB2 aC (uBx HB uB (uBx HB uC (uAx HB uD))))) (fun hHeld => ?_)
           refine gH aG.tab7 aG.KV (fun HT_ HW_ => ?_)
           generalize Su.drew = kc at aC gX HB mV lK rE rF rG hHeld ⊢
           refine pU1 0 ?_
           refine tK8 1 (some 29) ?_
           refine oN 2 (some 30) fun K hK => ?_
           refine gQ Tryz.func51 (bT.calls k2 ((aA aE gI).f0) true _ V0.out) ?_
           rintro w' ⟨nd, rfl⟩
           refine nK hK (uB3 gX (uB2 aC (uBx HB uB (uBx HB uC (uAx HB uD))))).1 fun hHeld => ?_
           clear hK K
           refine pU8 3 4 5 6 7 8 10 11 ?_
           refine pU1 15 ?_
           refine tK8 9 (some 37) ?_
           refine pU2 12 13 ?_
           refine tK8 14 (some 42) ?_
           refine tK8 16 (some 44) ?_
           refine pU6 17 18 19 20 21 23 ?_
           refine tK8 22 (some 50) ?_
           refine tK8 24 (some 52) ?_
           refine oN 25 (some 53) fun K hK => ?_
           refine gQ Tryz.func52 (bV.calls k2 _ _ ((aA aE gI).f2) _ _ aQ true _ ((Kd.aM vH.1 vB)) vF.1 ((Kd.aM cS.1 vB)) cO.1 S4.out) ?_
           rintro w' ⟨nd, rfl⟩
           refine nK hK (uB3 gX (uB2 aC (uBx HB uB (uBx HB uC (uAx HB uD))))).1 fun hHeld => ?_
           clear hK K
           refine pU5 26 27 28 29 31 ?_
           refine tK8 30 (some 58) ?_
           refine tK8 32 (some 60) ?_
           refine oN 33 (some 61) fun K hK => ?_
           refine gQ Tryz.func52 (bV.calls k2 _ _ ((aA aE gI).f1) _ _ ((aA aE gI).f2) US _ ((Kd.aM sB.1 vB)) sA.1 ((Kd.aM vH.1 vB)) vF.1 A25.out) ?_
           rintro w' ⟨nd, rfl⟩
           refine nK hK (uB3 gX (uB2 aC (uBx HB uB (uBx HB uC (uAx HB uD))))).1 fun hHeld => ?_
           clear hK K
           refine pU2 34 35 ?_
           refine dN ?_
           try go_wp2
           go_meet
           case rel => exact ⟨_, (!US), eS, H', ⟨by have := HJ1.out; have := HK2.out; first | omega | exact Nat.le_refl _⟩, ⟨rB aC.1⟩, ⟨rB gX.1⟩, ⟨vB⟩⟩
          ·have H' := am H
           repeat clear H
           try go_wp2
           obtain ⟨mm, eW_⟩ := eW3 UZ CT (.string ((aA aE gI).f0)) (.slice vS ((aA aE gI).f1).length vX) (.slice vT ((aA aE gI).f2).length vY)
           rw [← eW_]
           replace aC := uF3 eW_ aC pQ
           replace gX := uP3 eW_ gX
           replace HB := uC3 eW_ HB KJ
           clear eW_
           replace aC := BD aC
           replace gX := BD gX
           replace HB := am (aU HB.1)
           obtain ⟨rX, mI, mM, oD, oI, BG, uB, uC, uD, rE, rF, rG, mV, p5, lK, wO, PU, J5⟩ := xG bE HB (ji19)
           obtain rfl : lM = rX := (by injection BG)
           refine sT [] 36 (uB3 gX (uB2 aC (uBx HB uB (uBx HB uC (uAx HB uD))))) (fun hHeld => ?_)
           refine gH aG.tab7 aG.KV (fun HT_ HW_ => ?_)
           generalize mm.drew = w29 at aC gX HB mV lK rE rF rG hHeld ⊢
           refine pU1 0 ?_
           refine tK8 1 (some 29) ?_
           refine oN 2 (some 30) fun K hK => ?_
           refine gQ Tryz.func51 (bT.calls k2 ((aA aE gI).f0) true _ V0.out) ?_
           rintro w' ⟨nd, rfl⟩
           refine nK hK (uB3 gX (uB2 aC (uBx HB uB (uBx HB uC (uAx HB uD))))).1 fun hHeld => ?_
           clear hK K
           refine pU8 3 4 5 6 7 8 10 11 ?_
           refine pU1 15 ?_
           refine tK8 9 (some 37) ?_
           refine pU2 12 13 ?_
           refine tK8 14 (some 42) ?_
           refine tK8 16 (some 44) ?_
           refine pU6 17 18 19 20 21 23 ?_
           refine tK8 22 (some 50) ?_
           refine tK8 24 (some 52) ?_
           refine oN 25 (some 53) fun K hK => ?_
           refine gQ Tryz.func52 (bV.calls k2 _ _ ((aA aE gI).f2) _ _ aQ false _ ((Kd.aM vH.1 vB)) vF.1 ((Kd.aM cS.1 vB)) cO.1 S4.out) ?_
           rintro w' ⟨nd, rfl⟩
           refine nK hK (uB3 gX (uB2 aC (uBx HB uB (uBx HB uC (uAx HB uD))))).1 fun hHeld => ?_
           clear hK K
           refine pU3 26 27 28 ?_
           refine pV6 29 30 31 32 33 34 ?_
           refine pU1 35 ?_
           refine dN ?_
           try go_wp2
           go_meet
           case rel => exact ⟨_, (true), eS, H', ⟨by have := HJ1.out; have := HK2.out; first | omega | exact Nat.le_refl _⟩, ⟨rB aC.1⟩, ⟨rB gX.1⟩, ⟨vB⟩⟩
         ·have H' := am H
          repeat clear H
          try go_wp2
          obtain ⟨mn, eW_⟩ := eW3 UZ CT (.string ((aA aE gI).f0)) (.slice vS ((aA aE gI).f1).length vX) (.slice vT ((aA aE gI).f2).length vY)
          rw [← eW_]
          replace aC := uF3 eW_ aC pQ
          replace gX := uP3 eW_ gX
          replace HB := uC3 eW_ HB KJ
          clear eW_
          replace aC := BD aC
          replace gX := BD gX
          replace HB := am (aU HB.1)
          obtain ⟨rX, mI, mM, oD, oI, BG, uB, uC, uD, rE, rF, rG, mV, p5, lK, wO, PU, J5⟩ := xG bE HB (ji19)
          obtain rfl : lM = rX := (by injection BG)
          refine sT [] 36 (uB3 gX (uB2 aC (uBx HB uB (uBx HB uC (uAx HB uD))))) (fun hHeld => ?_)
          refine gH aG.tab7 aG.KV (fun HT_ HW_ => ?_)
          generalize mn.drew = kd at aC gX HB mV lK rE rF rG hHeld ⊢
          refine pU1 0 ?_
          refine tK8 1 (some 29) ?_
          refine oN 2 (some 30) fun K hK => ?_
          refine gQ Tryz.func51 (bT.calls k2 ((aA aE gI).f0) true _ V0.out) ?_
          rintro w' ⟨nd, rfl⟩
          refine nK hK (uB3 gX (uB2 aC (uBx HB uB (uBx HB uC (uAx HB uD))))).1 fun hHeld => ?_
          clear hK K
          refine pU8 3 4 5 6 7 8 10 11 ?_
          refine pU1 15 ?_
          refine tK8 9 (some 37) ?_
          refine pU2 12 13 ?_
          refine tK8 14 (some 42) ?_
          refine tK8 16 (some 44) ?_
          refine pU4 17 18 19 20 ?_
          refine pV6 21 22 23 24 25 26 ?_
          refine pU2 27 28 ?_
          refine pV6 29 30 31 32 33 34 ?_
          refine pU1 35 ?_
          refine dN ?_
          try go_wp2
          go_meet
          case rel => exact ⟨_, (true), eS, H', ⟨by have := HJ1.out; have := HK2.out; first | omega | exact Nat.le_refl _⟩, ⟨rB aC.1⟩, ⟨rB gX.1⟩, ⟨vB⟩⟩
        ·rw [if_neg Dc] at H
         have ET : decide (0 < gI) = false := decide_eq_false Dc
         clear Dc
         (first | rw [ET] | (simp only [rZ, xP]; rw [ET]) | skip)
         obtain ⟨wX, kj, H⟩ := bd H
         refine tC H ?_ ?_ <;> clear H <;> intro c33 H <;> subst c33
         ·obtain ⟨Pr, A34, H⟩ := bd H
          have H' := am H
          repeat clear H
          try go_wp2
          obtain ⟨Sv, eW_⟩ := eW3 UZ CT (.string ((aA aE gI).f0)) (.slice vS ((aA aE gI).f1).length vX) (.slice vT ((aA aE gI).f2).length vY)
          rw [← eW_]
          replace aC := uF3 eW_ aC pQ
          replace gX := uP3 eW_ gX
          replace HB := uC3 eW_ HB KJ
          clear eW_
          replace aC := BD aC
          replace gX := BD gX
          replace HB := am (aU HB.1)
          refine sT [] 36 (uB3 gX (uA2 aC)) (fun hHeld => ?_)
          refine gH aG.tab7 aG.KV (fun HT_ HW_ => ?_)
          generalize Sv.drew = Zb at aC gX HB hHeld ⊢
          refine pU1 0 ?_
          refine tK5 1 (some 29) ?_
          refine oN 2 (some 30) fun K hK => ?_
          refine gQ Tryz.func51 (bT.calls k2 ((aA aE gI).f0) true _ V0.out) ?_
          rintro w' ⟨nd, rfl⟩
          refine nK hK (uB3 gX (uA2 aC)).1 fun hHeld => ?_
          clear hK K
          refine pU5 3 4 5 6 7 ?_
          refine pV8 8 9 10 11 12 13 14 15 ?_
          refine pV2 16 17 ?_
          refine pU5 18 19 20 21 23 ?_
          refine tK5 22 (some 50) ?_
          refine tK5 24 (some 52) ?_
          refine oN 25 (some 53) fun K hK => ?_
          refine gQ Tryz.func52 (bV.calls k2 _ _ ((aA aE gI).f2) _ _ aQ true _ ((Kd.aM vH.1 vB)) vF.1 ((Kd.aM cS.1 vB)) cO.1 kj.out) ?_
          rintro w' ⟨nd, rfl⟩
          refine nK hK (uB3 gX (uA2 aC)).1 fun hHeld => ?_
          clear hK K
          refine pU5 26 27 28 29 31 ?_
          refine tK5 30 (some 58) ?_
          refine tK5 32 (some 60) ?_
          refine oN 33 (some 61) fun K hK => ?_
          refine gQ Tryz.func52 (bV.calls k2 _ _ ((aA aE gI).f1) _ _ ((aA aE gI).f2) Pr _ ((Kd.aM sB.1 vB)) sA.1 ((Kd.aM vH.1 vB)) vF.1 A34.out) ?_
          rintro w' ⟨nd, rfl⟩
          refine nK hK (uB3 gX (uA2 aC)).1 fun hHeld => ?_
          clear hK K
          refine pU2 34 35 ?_
          refine dN ?_
          try go_wp2
          go_meet
          case rel => exact ⟨_, (!Pr), eS, H', ⟨by have := HJ1.out; have := HK2.out; first | omega | exact Nat.le_refl _⟩, ⟨rB aC.1⟩, ⟨rB gX.1⟩, ⟨vB⟩⟩
         ·have H' := am H
          repeat clear H
          try go_wp2
          obtain ⟨Zc, eW_⟩ := eW3 UZ CT (.string ((aA aE gI).f0)) (.slice vS ((aA aE gI).f1).length vX) (.slice vT ((aA aE gI).f2).length vY)
          rw [← eW_]
          replace aC := uF3 eW_ aC pQ
          replace gX := uP3 eW_ gX
          replace HB := uC3 eW_ HB KJ
          clear eW_
          replace aC := BD aC
          replace gX := BD gX
          replace HB := am (aU HB.1)
          refine sT [] 36 (uB3 gX (uA2 aC)) (fun hHeld => ?_)
          refine gH aG.tab7 aG.KV (fun HT_ HW_ => ?_)
          generalize Zc.drew = mo at aC gX HB hHeld ⊢
          refine pU1 0 ?_
          refine tK5 1 (some 29) ?_
          refine oN 2 (some 30) fun K hK => ?_
          refine gQ Tryz.func51 (bT.calls k2 ((aA aE gI).f0) true _ V0.out) ?_
          rintro w' ⟨nd, rfl⟩
          refine nK hK (uB3 gX (uA2 aC)).1 fun hHeld => ?_
          clear hK K
          refine pU5 3 4 5 6 7 ?_
          refine pV8 8 9 10 11 12 13 14 15 ?_
          refine pV2 16 17 ?_
          refine pU5 18 19 20 21 23 ?_
          refine tK5 22 (some 50) ?_
          refine tK5 24 (some 52) ?_
          refine oN 25 (some 53) fun K hK => ?_
          refine gQ Tryz.func52 (bV.calls k2 _ _ ((aA aE gI).f2) _ _ aQ false _ ((Kd.aM vH.1 vB)) vF.1 ((Kd.aM cS.1 vB)) cO.1 kj.out) ?_
          rintro w' ⟨nd, rfl⟩
          refine nK hK (uB3 gX (uA2 aC)).1 fun hHeld => ?_
          clear hK K
          refine pU3 26 27 28 ?_
          refine pV6 29 30 31 32 33 34 ?_
          refine pU1 35 ?_
          refine dN ?_
          try go_wp2
          go_meet
          case rel => exact ⟨_, (true), eS, H', ⟨by have := HJ1.out; have := HK2.out; first | omega | exact Nat.le_refl _⟩, ⟨rB aC.1⟩, ⟨rB gX.1⟩, ⟨vB⟩⟩
       ·have H' := am H
        repeat clear H
        try go_wp2
        obtain ⟨mq, eW_⟩ := eW3 UZ CT (.string ((aA aE gI).f0)) (.slice vS ((aA aE gI).f1).length vX) (.slice vT ((aA aE gI).f2).length vY)
        rw [← eW_]
        replace aC := uF3 eW_ aC pQ
        replace gX := uP3 eW_ gX
        replace HB := uC3 eW_ HB KJ
        clear eW_
        replace aC := BD aC
        replace gX := BD gX
        replace HB := am (aU HB.1)
        refine sT [] 36 (uA3 gX) (fun hHeld => ?_)
        refine gH aG.tab7 aG.KV (fun HT_ HW_ => ?_)
        generalize mq.drew = w40 at aC gX HB hHeld ⊢
        refine pU1 0 ?_
        refine tK3 1 (some 29) ?_
        refine oN 2 (some 30) fun K hK => ?_
        refine gQ Tryz.func51 (bT.calls k2 ((aA aE gI).f0) false _ V0.out) ?_
        rintro w' ⟨nd, rfl⟩
        refine nK hK (uA3 gX).1 fun hHeld => ?_
        clear hK K
        refine pU2 3 4 ?_
        refine pV8 5 6 7 8 9 10 11 12 ?_
        refine pV6 13 14 15 16 17 18 ?_
        refine pU2 19 20 ?_
        refine pV6 21 22 23 24 25 26 ?_
        refine pU2 27 28 ?_
        refine pV6 29 30 31 32 33 34 ?_
        refine pU1 35 ?_
        refine dN ?_
        try go_wp2
        go_meet
        case rel => exact ⟨_, (true), eS, H', ⟨by have := HJ1.out; have := HK2.out; first | omega | exact Nat.le_refl _⟩, ⟨rB aC.1⟩, ⟨rB gX.1⟩, ⟨vB⟩⟩
      case rest =>
       clear Tw
       obtain ⟨kq, ZO, rfl, HA, Mp, aC, gX, HB⟩ := hcut
       cases kq with
       | zero => exact absurd HA.out (by simp [aG.j2])
       | succ kj10 =>
        have H := HA.out
        clear HA
        simp only [aG.j2] at H
        refine tC H ?_ ?_ <;> (repeat clear H) <;> intro yo H <;> subst yo
        ·obtain rfl := Option.some.inj H
         repeat clear H
         go_wp2
         go_ret
         exact ⟨eR, vB⟩
        ·have H' := am H
         repeat clear H
         go_wp2
         go_loopg [5] kj10 (fun kq v5 w' => ∃ (XE : Int), v5 = .int .i64 XE ∧ aD (aG.l1 kq gI XE aQ aE ((aA aE gI).f0) ((aA aE gI).f1) ((aA aE gI).f2) = some r) ∧ aD (kq ≤ kj10) ∧ aD (w'.heap[aZ]? = some (.cells #[(.slice dD aQ.length dE), (.slice (some lM) aE.length dB)] 31 (0, 0))) ∧ aD (w'.heap[CT]? = some (.cells #[.string ((aA aE gI).f0), (.slice vS ((aA aE gI).f1).length vX), (.slice vT ((aA aE gI).f2).length vY)] 66 (0, 0))) ∧ aD (Below w.heap.size w w'))
         case atStart => exact ⟨(0), eS, H', ⟨Nat.le_refl _⟩, ⟨rB aC.1⟩, ⟨rB gX.1⟩, ⟨vB⟩⟩
         case round =>
          clear H'
          try clear yo
          obtain ⟨XE, rfl, HA, HK4, aC, gX, HB⟩ := hrel
          cases gk with
          | zero => exact absurd HA.out (by simp [aG.l1])
          | succ k4 =>
           have H := HA.out
           clear HA
           simp only [aG.l1] at H
           refine ic H ?_ ?_ <;> clear H <;> intro Ii H
           ·obtain ⟨yp, H⟩ := cN H
            obtain ⟨yq, H⟩ := cN H
            obtain ⟨P7, tn, H⟩ := bd H
            refine tC H ?_ ?_ <;> clear H <;> intro c46 H <;> subst c46
            ·obtain rfl := Option.some.inj H
             repeat clear H
             try go_wp2
             replace aC := BD aC
             replace gX := BD gX
             replace HB := am (aU HB.1)
             obtain ⟨CM, Sy, Vc, Sz, Vd, Y6, II, IJ, IK, IP, U0, U1, GZ, S7, SA, Mk, Xv, Yb⟩ := xG bE HB XE
             obtain rfl : lM = CM := (by injection Y6)
             refine sT [] 9 (uB3 gX (uB2 aC (uBx HB II (uBx HB IJ (uAx HB IK))))) (fun hHeld => ?_)
             refine gH aG.Sn aG.Ho (fun HT_ HW_ => ?_)
             generalize wr.drew = th at aC gX HB GZ SA IP U0 U1 hHeld ⊢
             refine pU3 0 2 4 ?_
             refine tK8 1 (some 70) ?_
             refine tK8 3 (some 72) ?_
             refine pU2 5 6 ?_
             refine tK8 7 (some 76) ?_
             refine oN 8 (some 77) fun K hK => ?_
             refine gQ Tryz.func53 (dW.calls k4 _ _ ((aA aE gI).f1) _ _ ((aA aE XE).f1) true _ (pB sB) sA.1 (pB GZ) S7.1 tn.out) ?_
             rintro w' ⟨nd, rfl⟩
             refine nK hK (uB3 gX (uB2 aC (uBx HB II (uBx HB IJ (uAx HB IK))))).1 fun hHeld => ?_
             clear hK K
             refine dN ?_
             try go_wp2
             go_ret
             exact ⟨eR, vB⟩
            ·have H' := am H
             repeat clear H
             try go_wp2
             replace aC := BD aC
             replace gX := BD gX
             replace HB := am (aU HB.1)
             obtain ⟨CM, Sy, Vc, Sz, Vd, Y6, II, IJ, IK, IP, U0, U1, GZ, S7, SA, Mk, Xv, Yb⟩ := xG bE HB XE
             obtain rfl : lM = CM := (by injection Y6)
             refine sT [] 9 (uB3 gX (uB2 aC (uBx HB II (uBx HB IJ (uAx HB IK))))) (fun hHeld => ?_)
             refine gH aG.Sn aG.Ho (fun HT_ HW_ => ?_)
             generalize wr.drew = w48 at aC gX HB GZ SA IP U0 U1 hHeld ⊢
             refine pU3 0 2 4 ?_
             refine tK8 1 (some 70) ?_
             refine tK8 3 (some 72) ?_
             refine pU2 5 6 ?_
             refine tK8 7 (some 76) ?_
             refine oN 8 (some 77) fun K hK => ?_
             refine gQ Tryz.func53 (dW.calls k4 _ _ ((aA aE gI).f1) _ _ ((aA aE XE).f1) false _ (pB sB) sA.1 (pB GZ) S7.1 tn.out) ?_
             rintro w' ⟨nd, rfl⟩
             refine nK hK (uB3 gX (uB2 aC (uBx HB II (uBx HB IJ (uAx HB IK))))).1 fun hHeld => ?_
             clear hK K
             refine dN ?_
             try go_wp2
             go_roundg k4
             case measure => have := HJ1.out; have := HK2.out; have := Mp.out; have := HK4.out; omega
             case rel => exact ⟨(wrap64 (XE + 1)), eS, H', ⟨by have := HJ1.out; have := HK2.out; have := Mp.out; have := HK4.out; omega⟩, ⟨rB aC.1⟩, ⟨rB gX.1⟩, ⟨vB⟩⟩
           ·have H' := am H
            repeat clear H
            go_wp2
            go_roundg k4
            case measure => have := HJ1.out; have := HK2.out; have := Mp.out; have := HK4.out; omega
            case rel => exact ⟨(wrap64 (gI + 1)), eS, H', ⟨by have := HJ1.out; have := HK2.out; have := Mp.out; have := HK4.out; omega⟩, ⟨rB aC.1⟩, ⟨vB⟩⟩
     ·obtain rfl := Option.some.inj H
      repeat clear H
      have Z49 := cz2 aC
      go_wp2
      go_ret
      exact ⟨eR, dQ⟩
end Go.Proofs.YtaofjgnhapnndaaGreatDoor.Q
