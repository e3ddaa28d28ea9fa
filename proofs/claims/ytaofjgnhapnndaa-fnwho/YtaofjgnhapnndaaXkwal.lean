/- Texts that the row needs: words on memory and rows, the contracts of the functions it reaches, and the plain lemmas on what they compute. -/
import Derived.Shelf.Sort.Plain
import Derived.Shelf.Slices.In.SortNone2
import Derived.Shelf.Slices.Cells
import Derived.Shelf.Bodies
import Derived.Ground.NamesProg
import Derived.Test.YtaofjgnhapnndaaXkwak
open Go.Proofs.YtaofjgnhapnndaaFkw
namespace Go.Proofs.Ytaofjgnhapnndaa.Q
open Go.RowKit Go.Proofs.YtaofjgnhapnndaaW.PrintWords Go.Proofs.YtaofjgnhapnndaaW.PrintLast Go.Proofs.YtaofjgnhapnndaaW.PrintMore
set_option linter.unusedVariables false
set_option linter.unusedSimpArgs false
def insL (a : ByteArray) : List ByteArray → List ByteArray
  | [] => [a]
  | x :: t => if Op.bytesLess x.toList a.toList = true then x :: insL a t else if x.toList == a.toList then x :: t else a :: x :: t
def AscS (l : List ByteArray) : Prop := l.Pairwise fun a b => Op.bytesLess a.toList b.toList = true
def insAll (has things : List ByteArray) : List ByteArray := things.foldl (fun h a => insL a h) has
theorem insL_same (a : ByteArray) : ∀ l : List ByteArray, insF a l = true → insL a l = l
  | [], h => by cases h
  | x :: t, h => by
    unfold insF at h
    unfold insL
    by_cases hc : Op.bytesLess x.toList a.toList = true
    · rw [if_pos hc] at h ⊢
      rw [insL_same a t h]
    · rw [if_neg hc] at h ⊢
      rw [if_pos h]
theorem insL_len (a : ByteArray) : ∀ l : List ByteArray, (insL a l).length ≤ l.length + 1
  | [] => by simp [insL]
  | x :: t => by
    unfold insL
    have := insL_len a t
    split
    · simp only [List.length_cons]; omega
    · split <;> simp only [List.length_cons] <;> omega
theorem insAll_len : ∀ (things has : List ByteArray), (insAll has things).length ≤ has.length + things.length
  | [], has => by simp [insAll]
  | a :: t, has => by
    have h1 := insAll_len t (insL a has)
    have h2 := insL_len a has
    show (insAll (insL a has) t).length ≤ _
    simp only [List.length_cons]; omega
theorem insAll_snoc (has l : List ByteArray) (a : ByteArray) : insAll has (l ++ [a]) = insL a (insAll has l) := by
  unfold insAll; rw [List.foldl_append]; rfl
theorem names_asc {l all : List ByteArray} (h : namesB l all = true) : AscS l := by
  unfold namesB at h
  have hall := (allR_iff _ _ _).1 h
  have hstep : ∀ i (hi : i + 1 < l.length), Op.bytesLess (l[i]'(by omega)).toList l[i + 1].toList = true := by
    intro i hi
    have q := hall (i + 1) (by omega) hi
    unfold namesP at q
    simp only [Bool.and_eq_true, Bool.or_eq_true, decide_eq_true_eq] at q
    rcases q.2 with q3 | q3
    · omega
    · unfold ltB gS at q3
      rw [getD_lt l _ (show i + 1 - 1 < l.length by omega), getD_lt l _ hi] at q3
      exact q3
  unfold AscS
  rw [List.pairwise_iff_getElem]
  have go : ∀ (d i : Nat) (hd : i + d + 1 < l.length), Op.bytesLess (l[i]'(by omega)).toList (l[i + d + 1]'hd).toList = true := by
    intro d
    induction d with
    | zero => intro i hd; exact hstep i hd
    | succ d ih => intro i hd; exact bl_trans (ih i (by omega)) (hstep (i + d + 1) (by omega))
  intro i j hi hj hij
  have := go (j - i - 1) i (by omega)
  simpa only [show i + (j - i - 1) + 1 = j by omega] using this
end Go.Proofs.Ytaofjgnhapnndaa.Q
