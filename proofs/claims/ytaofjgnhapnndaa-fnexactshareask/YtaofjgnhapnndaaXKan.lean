/- Texts that the row needs: words on memory and rows, the contracts of the functions it reaches, and the plain lemmas on what they compute. -/
import Derived.Test.YtaofjgnhapnndaaProg
import Derived.Below
import Derived.Deep.Draws
import Derived.Deep.AppendLies
import Derived.Maps.AppendAt
import Derived.OwnWalk
import Derived.Laws.BytesArg
import Derived.Laws.MakeOwn
import Derived.Laws.OwnMore
import Derived.Deep.OwnRows
import Derived.Tactics
import Derived.Lib.ConvBytes
import Derived.Laws.Slices
import Derived.WalkKit
import Derived.KernelRfl
import Derived.RowKit3
import Derived.Deep.LoopGhost
import Derived.Deep.QuietTactic
import Derived.BigQuiet
import Derived.WideLaws
import Derived.Deep.DeepCutAuto
import Derived.Deep.CutBlock
import Derived.Deep.RegionHeld3
import Derived.Laws.Rows
import Derived.Lib.AppendStr
import Derived.ArgAppend
import Derived.Laws.IdiomCopy
import Derived.OrdersHeld
import Derived.Laws.BitsLemmas
import Derived.RowKit
import Derived.WalkLawsBesides
import Derived.Laws.StructEq
import Derived.Deep.Strs
import Derived.Lib.SmallJoins
import Derived.Test.YtaofjgnhapnndaaRows
import Derived.ProofKit
import Derived.Shelf.Slices.Cells
import Derived.Shelf.Bodies
import Derived.Ground.NamesProg
import Derived.Shelf.Sort.Plain
import Derived.Shelf.Slices.In.SortNone2
import Derived.Shelf.Abstract
import Derived.Lib.SliceRun
import Derived.Shelf.GgSortFunc.SmallK
import Derived.Shelf.GgSortFunc.Tiny
import Derived.Ground.GgsProg
import Derived.Deep.RegionLaw
import Derived.Test.YtaofjgnhapnndaaXKaa
import Derived.Test.YtaofjgnhapnndaaXKab
import Derived.Test.YtaofjgnhapnndaaXKac
import Derived.Test.YtaofjgnhapnndaaXKad
import Derived.Test.YtaofjgnhapnndaaXKae
import Derived.Test.YtaofjgnhapnndaaXKaf
import Derived.Test.YtaofjgnhapnndaaXKag
import Derived.Test.YtaofjgnhapnndaaXKah
import Derived.Test.YtaofjgnhapnndaaXKai
import Derived.Test.YtaofjgnhapnndaaXKaj
import Derived.Test.YtaofjgnhapnndaaXKak
import Derived.Test.YtaofjgnhapnndaaXKal
import Derived.Test.YtaofjgnhapnndaaXKam
open Go.Proofs.YtaofjgnhapnndaaFK
namespace Go.Proofs.Ytaofjgnhapnndaa.Q
open Go.RowKit Go.Proofs.YtaofjgnhapnndaaW.PrintWords Go.Proofs.YtaofjgnhapnndaaW.PrintLast Go.Proofs.YtaofjgnhapnndaaW.PrintMore
set_option linter.unusedVariables false
set_option linter.unusedSimpArgs false
section
open Go.ChangeShapes Go.WideShapes Go.Deep Go.Joins
variable {H : Type} {enc : TypeId × Value → H} {w : World} {base : Nat} {spare : Nat → Bool} {held : Bool}
theorem list_three {α : Type} : ∀ {l : List α}, l.length = 3 → ∃ a b c, l = [a, b, c]
  | [a, b, c], _ => ⟨a, b, c, rfl⟩
theorem strs_of_trod {n : Nat} {v : Value} {y : DataW H × List MemPlace} (h : DataW.trod enc Try.prog w base spare held n 23 [v] = some y) :
    ∃ (A : Option Addr) (c : Nat) (l : List ByteArray), v = .slice A l.length c ∧ l.length ≤ c ∧ Kd.C Kd.string w A l.length l ∧ l.length ≤ 9223372036854775807 ∧ ∀ s ∈ l, s.size ≤ 9223372036854775807 := by
  rcases open_strs Try.underlying23 Try.underlying9 (by kernel_rfl) h with ⟨hcs, _⟩ | ⟨a, len, cap, m, Sx, hcs, hb, hl, hm, hmm, _, hx⟩
  · injection hcs with hv _
    exact ⟨none, 0, [], hv, Nat.le_refl _, Kd.C_nil _ _, by simp, by simp⟩
  · injection hcs with hv _
    have hlm : len ≤ m := by rw [hmm]; split <;> omega
    have hlen : ((List.range len).map Sx).length = len := by simp
    have hbig : len ≤ 9223372036854775807 := by unfold maxLen at hm; omega
    refine ⟨some a, cap, (List.range len).map Sx, by rw [hlen]; exact hv, by omega, ?_, by omega, ?_⟩
    · rw [hlen]
      refine Kd.C_of_reads (d := ByteArray.empty) (h1 := fun _ => rfl) ⟨hlen, hbig, fun _ => ⟨a, rfl, fun j hj => ?_⟩⟩
      rw [(hx j (by omega)).1, List.getD_eq_getElem?_getD, List.getElem?_map, List.getElem?_range hj]
      rfl
    · intro s hs
      obtain ⟨i, hi, rfl⟩ := List.mem_map.1 hs
      have := (hx i (by have := List.mem_range.1 hi; omega)).2
      unfold maxLen at this
      exact this
theorem batches_of_trod {n : Nat} {v : Value} {y : DataW H × List MemPlace} (h : DataW.trod enc Try.prog w base spare held n 24 [v] = some y) :
    ∃ (A : Option Addr) (c : Nat) (l : List S94), v = .slice A l.length c ∧ l.length ≤ c ∧ Kd.C k94 w A l.length l ∧ l.length ≤ 9223372036854775807 ∧
      ∀ b ∈ l, b.f0.size ≤ 9223372036854775807 ∧ (b.f1.length ≤ 9223372036854775807 ∧ ∀ s ∈ b.f1, s.size ≤ 9223372036854775807) ∧ (b.f2.length ≤ 9223372036854775807 ∧ ∀ s ∈ b.f2, s.size ≤ 9223372036854775807) := by
  rcases open_slice Try.underlying24 h with ⟨hcs, _⟩ | ⟨a, len, cap, m, k, D, Pl, hcs, hb, hl, hm, hmm, _, hx⟩
  · injection hcs with hv _
    exact ⟨none, 0, [], hv, Nat.le_refl _, Kd.C_nil _ _, by simp, by simp⟩
  · injection hcs with hv _
    have hlm : len ≤ m := by rw [hmm]; split <;> omega
    have hbig : len ≤ 9223372036854775807 := by unfold maxLen at hm; omega
    have each : ∀ i, i < len → ∃ b : S94, (∃ cs, cs.length = 3 ∧ k94.K w b cs ∧ ∀ j u, cs[j]? = some u → w.cell? (a.add (i * 3 + j)) = some u) ∧
        b.f0.size ≤ 9223372036854775807 ∧ (b.f1.length ≤ 9223372036854775807 ∧ ∀ s ∈ b.f1, s.size ≤ 9223372036854775807) ∧ (b.f2.length ≤ 9223372036854775807 ∧ ∀ s ∈ b.f2, s.size ≤ 9223372036854775807) := by
      intro i hi
      obtain ⟨cs, hc, ht⟩ := hx i (by omega)
      rw [show Try.prog.cellsOf 94 = 3 from by kernel_rfl] at hc
      obtain ⟨_, hcl, hat⟩ := World.cells?_some hc
      obtain ⟨y0, y1, y2, q, _, _, h0, h1, h2⟩ := trod_struct3 Try.underlying94 ht
      obtain ⟨c0, c1, c2, rfl⟩ := list_three hcl
      rw [show Try.prog.cellsOf 9 = 1 from by kernel_rfl] at h0
      rw [show Try.prog.cellsOf 23 = 1 from by kernel_rfl] at h1 h2
      obtain ⟨s, hs1, _, hs3⟩ := DataW.trod_string Try.underlying9 (show DataW.trod enc Try.prog w base spare held q 9 [c0] = some y0 from h0)
      obtain ⟨A1, n1, l1, rfl, g1, C1, b1, z1⟩ := strs_of_trod (show DataW.trod enc Try.prog w base spare held q 23 [c1] = some y1 from h1)
      obtain ⟨A2, n2, l2, rfl, g2, C2, b2, z2⟩ := strs_of_trod (show DataW.trod enc Try.prog w base spare held q 23 [c2] = some y2 from h2)
      injection hs1 with hs1 _
      subst hs1
      refine ⟨⟨s, l1, l2⟩, ⟨[.string s, .slice A1 l1.length n1, .slice A2 l2.length n2], rfl, k94_mk w ⟨s, l1, l2⟩ g1 C1 g2 C2, fun j u hj => ?_⟩, by unfold maxLen at hs3; exact hs3, ⟨b1, z1⟩, ⟨b2, z2⟩⟩
      have hjl : j < 3 := by
        have := (List.getElem?_eq_some_iff.1 hj).1
        simpa using this
      have := hat j hjl
      rw [← Go.Deep.add_add, this, hj]
    haveI : Inhabited S94 := ⟨z94⟩
    obtain ⟨B, hB⟩ := choose_lt each
    have hlen : ((List.range len).map B).length = len := by simp
    refine ⟨some a, cap, (List.range len).map B, by rw [hlen]; exact hv, by omega, ?_, by omega, ?_⟩
    · rw [hlen]
      refine ⟨hlen, hbig, fun _ => ⟨a, rfl, fun j p hj => ?_⟩⟩
      have hjl : j < len := by
        have := (List.getElem?_eq_some_iff.1 hj).1
        omega
      rw [List.getElem?_map, List.getElem?_range hjl] at hj
      simp only [Option.map_some, Option.some.injEq] at hj
      subst hj
      exact (hB j hjl).1
    · intro b hb
      obtain ⟨i, hi, rfl⟩ := List.mem_map.1 hb
      exact (hB i (List.mem_range.1 hi)).2
set_option maxRecDepth 100000 in
theorem book_of_trod {r : Reach} {b0 : Nat} {v : Value} {d : DataW H} {p : List MemPlace} (hv : Value.okWide Try.prog w r b0 26 v) (h : DataW.Trod enc Try.prog w base spare held 26 v d p) :
    ∃ (A0 : Option Addr) (c0 : Nat) (l0 : List ByteArray) (A1 : Option Addr) (c1 : Nat) (l1 : List S94), v = .agg #[.slice A0 l0.length c0, .slice A1 l1.length c1] ∧
      (l0.length ≤ c0 ∧ Kd.C Kd.string w A0 l0.length l0 ∧ l0.length ≤ 9223372036854775807 ∧ ∀ s ∈ l0, s.size ≤ 9223372036854775807) ∧
      (l1.length ≤ c1 ∧ Kd.C k94 w A1 l1.length l1 ∧ l1.length ≤ 9223372036854775807 ∧
        ∀ b ∈ l1, b.f0.size ≤ 9223372036854775807 ∧ (b.f1.length ≤ 9223372036854775807 ∧ ∀ s ∈ b.f1, s.size ≤ 9223372036854775807) ∧ (b.f2.length ≤ 9223372036854775807 ∧ ∀ s ∈ b.f2, s.size ≤ 9223372036854775807)) := by
  obtain ⟨v0, v1, y0, y1, n, rfl, _, _, h0, h1⟩ := open_agg2 Try.underlying26 (by kernel_rfl) (by kernel_rfl) hv h
  obtain ⟨A0, c0, l0, rfl, g0⟩ := strs_of_trod h0
  obtain ⟨A1, c1, l1, rfl, g1⟩ := batches_of_trod h1
  exact ⟨A0, c0, l0, A1, c1, l1, rfl, g0, g1⟩
set_option maxRecDepth 100000 in
theorem strs_of_Trod {r : Reach} {b0 : Nat} {v : Value} {d : DataW H} {p : List MemPlace} (hv : Value.okWide Try.prog w r b0 23 v) (h : DataW.Trod enc Try.prog w base spare held 23 v d p) :
    ∃ (A : Option Addr) (c : Nat) (l : List ByteArray), v = .slice A l.length c ∧ l.length ≤ c ∧ Kd.C Kd.string w A l.length l ∧ l.length ≤ 9223372036854775807 ∧ ∀ s ∈ l, s.size ≤ 9223372036854775807 := by
  obtain ⟨a, len, cap, rfl⟩ := okWide_slice Try.underlying23 hv
  obtain ⟨fuel, hf⟩ := h
  exact strs_of_trod hf
end
end Go.Proofs.Ytaofjgnhapnndaa.Q
