/- Texts that the row needs: words on memory and rows, the contracts of the functions it reaches, and the plain lemmas on what they compute. -/
import Derived.Lib.SplitLaws
import Derived.Lib.Join
import Derived.Test.YtaofjgnhapnndaaGreatDoorXksao
open Go.Proofs.YtaofjgnhapnndaaGreatDoorFks
namespace Go.Proofs.YtaofjgnhapnndaaGreatDoor.Q
open Go.RowKit Go.Proofs.YtaofjgnhapnndaaGreatDoorW.PrintWords Go.Proofs.YtaofjgnhapnndaaGreatDoorW.PrintLast Go.Proofs.YtaofjgnhapnndaaGreatDoorW.PrintMore
set_option linter.unusedVariables false
set_option linter.unusedSimpArgs false
open Go.Lib
def pieces (s sep : ByteArray) : List ByteArray := Lib.splitB sep 0 (Lib.countB s sep) s
def o8 (p : List UInt8) : List (List UInt8) → List (List UInt8)
  | [] => [p]
  | h :: t => (p ++ h) :: t
def cutL (c : UInt8) : List UInt8 → List (List UInt8)
  | [] => [[]]
  | b :: l => if b = c then [] :: cutL c l else o8 [b] (cutL c l)
theorem VZ (p q : List UInt8) (X : List (List UInt8)) : o8 p (o8 q X) = o8 (p ++ q) X := by cases X <;> simp [o8]
theorem YE (p : List UInt8) (X : List (List UInt8)) : o8 p X ≠ [] := by cases X <;> simp [o8]
theorem BC (c : UInt8) (l : List UInt8) : cutL c l ≠ [] := by
 cases l with
 | nil => simp [cutL]
 | cons b l =>
  unfold cutL
  split
  ·simp
  ·exact YE _ _
theorem L9 {X : List (List UInt8)} (h : X ≠ []) : o8 [] X = X := by
 cases X with
 | nil => exact absurd rfl h
 | cons a t => rfl
theorem CP (c : UInt8) (l : List UInt8) : cutL c (c :: l) = [] :: cutL c l := by rw [cutL, if_pos rfl]
theorem I6 {b c : UInt8} (h : ¬ b = c) (l : List UInt8) : cutL c (b :: l) = o8 [b] (cutL c l) := by rw [cutL, if_neg h]
theorem Dr (c : UInt8) (l : List UInt8) : Lib.index (c :: l) [c] = ((0 : Nat) : Int) := by rw [Lib.index]; simp [List.isPrefixOf]
theorem Jl {b c : UInt8} (h : ¬ b = c) (l : List UInt8) : Lib.index (b :: l) [c] = if Lib.index l [c] == -1 then -1 else Lib.index l [c] + 1 := by
 have hp : ([c] : List UInt8).isPrefixOf (b :: l) = false := by simp [List.isPrefixOf, Ne.symm h]
 rw [Lib.index, hp]; simp
theorem P5 (c : UInt8) : ∀ l : List UInt8, Lib.splitK [c] 0 (Lib.count l [c]) l = cutL c l
  | [] => by
    rw [Lib.count_one, List.count_nil]; rfl
  | b :: l => by
    have ih := P5 c l
    by_cases h : b = c
    · subst h
      rw [Lib.count_cons_eq, CP, ← ih, Nat.add_comm, Lib.splitK, Dr]
      simp
    · rw [Lib.count_cons_ne b c l h, I6 h, ← ih]
      cases hk : Lib.count l [c] with
      | zero => rfl
      | succ k =>
        rw [Lib.splitK, Lib.splitK, Jl h]
        have hge := Lib.index_ge l [c]
        by_cases hm : Lib.index l [c] = -1
        · rw [hm]; rfl
        · obtain ⟨j, hj⟩ : ∃ j : Nat, Lib.index l [c] = j := ⟨(Lib.index l [c]).toNat, by omega⟩
          have h1 : (Lib.index l [c] == -1) = false := beq_eq_false_iff_ne.mpr hm
          have h2 : (Lib.index l [c] + 1 == -1) = false := beq_eq_false_iff_ne.mpr (by omega)
          rw [h1]
          simp only [Bool.false_eq_true, if_false, h2]
          rw [hj]
          have e : ((j : Int) + 1).toNat = j + 1 := by omega
          rw [e, Int.toNat_natCast]
          simp [o8, Nat.add_comm, Nat.add_left_comm]
theorem YM (x : List UInt8) (X : List (List UInt8)) (hX : X ≠ []) (sep : List UInt8) : Lib.join (x :: X) sep = x ++ (sep ++ Lib.join X sep) := by
 cases X with
 | nil => exact absurd rfl hX
 | cons y r => rw [Lib.join_cons, Lib.join_cons, Lib.joinTail, Lib.joinTail, List.map_cons, List.flatten_cons, List.append_assoc]
theorem Dv (p : List UInt8) (X : List (List UInt8)) (hX : X ≠ []) (sep : List UInt8) : Lib.join (o8 p X) sep = p ++ Lib.join X sep := by
 cases X with
 | nil => exact absurd rfl hX
 | cons y r => rw [o8, Lib.join_cons, Lib.join_cons, List.append_assoc]
theorem WM (c : UInt8) : ∀ l : List UInt8, Lib.join (cutL c l) [c] = l
  | [] => Lib.join_one _ _
  | b :: l => by
    have ih := WM c l
    by_cases h : b = c
    · subst h
      rw [CP, YM _ _ (BC _ _), ih]; rfl
    · rw [I6 h, Dv _ _ (BC _ _), ih]; rfl
theorem VR (c : UInt8) : ∀ l : List UInt8, (cutL c l).length ≤ l.length + 1
  | [] => Nat.le_refl _
  | b :: l => by
    have ih := VR c l
    by_cases h : b = c
    · subst h
      rw [CP, List.length_cons, List.length_cons]; omega
    · rw [I6 h, List.length_cons]
      have hn := BC c l
      cases hc : cutL c l with
      | nil => exact absurd hc hn
      | cons y r => rw [hc] at ih; rw [o8, List.length_cons]; rw [List.length_cons] at ih; omega
theorem vC (c : UInt8) (s : ByteArray) : pieces s ⟨#[c]⟩ = (cutL c (bl s)).map mkB := by
 have e1 := Lib.splitB_data ⟨#[c]⟩ 0 (Lib.countB s ⟨#[c]⟩) s
 have e2 : (pieces s ⟨#[c]⟩).map bl = cutL c (bl s) := by
  unfold pieces
  show (Lib.splitB ⟨#[c]⟩ 0 (Lib.countB s ⟨#[c]⟩) s).map (·.data.toList) = _
  rw [e1]
  exact P5 c (bl s)
 rw [← e2, List.map_map, show mkB ∘ bl = id from funext uE, List.map_id]
theorem sW (c : UInt8) (s : ByteArray) : pieces s ⟨#[c]⟩ ≠ [] := by
 rw [vC]
 have := BC c (bl s)
 simpa using this
theorem mP (c : UInt8) (s : ByteArray) : (pieces s ⟨#[c]⟩).length ≤ s.size + 1 := by
 rw [vC, List.length_map]
 exact VR c (bl s)
theorem ZC {c : UInt8} {s t : ByteArray} (h : pieces s ⟨#[c]⟩ = [t]) : s = t := by
 rw [vC] at h
 have h2 : ((cutL c (bl s)).map mkB).map bl = [bl t] := by rw [h]; rfl
 rw [List.map_map, show bl ∘ mkB = id from funext zN, List.map_id] at h2
 have e := WM c (bl s)
 rw [h2, Lib.join_one] at e
 rw [← uE s, ← e, uE]
end Go.Proofs.YtaofjgnhapnndaaGreatDoor.Q
