/- Texts that the row needs: words on memory and rows, the contracts of the functions it reaches, and the plain lemmas on what they compute. -/
import Derived.Shelf.Sort.Plain
import Derived.Shelf.Slices.In.SortNone2
import Derived.Shelf.Slices.Cells
import Derived.Shelf.Bodies
import Derived.Ground.NamesProg
import Derived.Test.YtaofjgnhapnndaaXkoal
open Go.Proofs.YtaofjgnhapnndaaFko
namespace Go.Proofs.Ytaofjgnhapnndaa.Q
open Go.RowKit Go.Proofs.YtaofjgnhapnndaaW.PrintWords Go.Proofs.YtaofjgnhapnndaaW.PrintLast Go.Proofs.YtaofjgnhapnndaaW.PrintMore
set_option linter.unusedVariables false
set_option linter.unusedSimpArgs false
def insL (a : ByteArray) : List ByteArray → List ByteArray
  | [] => [a]
  | x :: t => if Op.bytesLess x.toList a.toList = true then x :: insL a t else if x.toList == a.toList then x :: t else a :: x :: t
def sH (has things : List ByteArray) : List ByteArray := things.foldl (fun h a => insL a h) has
theorem SI (a : ByteArray) : ∀ l : List ByteArray, insF a l = true → insL a l = l
  | [], h => by cases h
  | x :: t, h => by
    unfold insF at h
    unfold insL
    by_cases hc : Op.bytesLess x.toList a.toList = true
    · rw [if_pos hc] at h ⊢
      rw [SI a t h]
    · rw [if_neg hc] at h ⊢
      rw [if_pos h]
theorem Y0 (a : ByteArray) : ∀ l : List ByteArray, (insL a l).length ≤ l.length + 1
  | [] => by simp [insL]
  | x :: t => by
    unfold insL
    have := Y0 a t
    split
    · simp only [List.length_cons]; omega
    · split <;> simp only [List.length_cons] <;> omega
theorem JA : ∀ (things has : List ByteArray), (sH has things).length ≤ has.length + things.length
  | [], has => by simp [sH]
  | a :: t, has => by
    have h1 := JA t (insL a has)
    have h2 := Y0 a has
    show (sH (insL a has) t).length ≤ _
    simp only [List.length_cons]; omega
theorem XZ (has l : List ByteArray) (a : ByteArray) : sH has (l ++ [a]) = insL a (sH has l) := by
 unfold sH; rw [List.foldl_append]; rfl
end Go.Proofs.Ytaofjgnhapnndaa.Q
