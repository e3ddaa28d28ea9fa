/- Texts that the row needs: words on memory and rows, the contracts of the functions it reaches, and the plain lemmas on what they compute. -/
import Derived.Test.YtaofjgnhapnndaaProg
import Derived.Below
import Derived.Deep.Draws
import Derived.Deep.AppendLies
import Derived.Maps.AppendAt
import Derived.OwnWalk
import Derived.Laws.BytesArg
import Derived.Laws.MakeOwn
import Derived.Laws.OwnMore
import Derived.Deep.OwnRows
import Derived.Tactics
import Derived.Lib.ConvBytes
import Derived.Laws.Slices
import Derived.WalkKit
import Derived.KernelRfl
import Derived.RowKit3
import Derived.Deep.LoopGhost
import Derived.Deep.QuietTactic
import Derived.BigQuiet
import Derived.WideLaws
import Derived.Deep.DeepCutAuto
import Derived.Deep.CutBlock
import Derived.Deep.RegionHeld3
import Derived.Laws.Rows
import Derived.Lib.AppendStr
import Derived.ArgAppend
import Derived.Laws.IdiomCopy
import Derived.OrdersHeld
import Derived.Laws.BitsLemmas
import Derived.RowKit
import Derived.WalkLawsBesides
import Derived.Laws.StructEq
import Derived.Shelf.GgSortFunc.Tiny
import Derived.Shelf.GgSortFunc.SmallK
import Derived.Ground.GgsProg
import Derived.Shelf.Abstract
import Derived.Lib.SliceRun
import Derived.Test.YtaofjgnhapnndaaRows
import Derived.ProofKit
import Derived.Shelf.Slices.Cells
import Derived.Shelf.Bodies
import Derived.Ground.NamesProg
import Derived.Shelf.Sort.Plain
import Derived.Shelf.Slices.In.SortNone2
import Derived.Test.YtaofjgnhapnndaaXKaa
import Derived.Test.YtaofjgnhapnndaaXKab
import Derived.Test.YtaofjgnhapnndaaXKac
import Derived.Test.YtaofjgnhapnndaaXKad
import Derived.Test.YtaofjgnhapnndaaXKae
import Derived.Test.YtaofjgnhapnndaaXKaf
import Derived.Test.YtaofjgnhapnndaaXKag
import Derived.Test.YtaofjgnhapnndaaXKah
import Derived.Test.YtaofjgnhapnndaaXKai
import Derived.Test.YtaofjgnhapnndaaXKaj
import Derived.Test.YtaofjgnhapnndaaXKak
open Go.Proofs.YtaofjgnhapnndaaFK
namespace Go.Proofs.Ytaofjgnhapnndaa.Q
open Go.RowKit Go.Proofs.YtaofjgnhapnndaaW.PrintWords Go.Proofs.YtaofjgnhapnndaaW.PrintLast Go.Proofs.YtaofjgnhapnndaaW.PrintMore
set_option linter.unusedVariables false
set_option linter.unusedSimpArgs false
theorem bl_trans {a b c : List UInt8} (h1 : Op.bytesLess a b = true) (h2 : Op.bytesLess b c = true) : Op.bytesLess a c = true := by
  rw [bytesLess_eq, decide_eq_true_eq] at *
  exact List.lt_trans h1 h2
theorem bl_flip {a b : List UInt8} (h1 : Op.bytesLess a b = false) (hne : a ≠ b) : Op.bytesLess b a = true := by
  rw [bytesLess_eq, decide_eq_false_iff_not] at h1
  rw [bytesLess_eq, decide_eq_true_eq]
  by_cases h : b < a
  · exact h
  · exact (hne (List.le_antisymm (List.not_lt.1 h) (List.not_lt.1 h1))).elim
end Go.Proofs.Ytaofjgnhapnndaa.Q
namespace Go.Proofs.Ytaofjgnhapnndaa.Q
open Go.RowKit Go.Proofs.YtaofjgnhapnndaaW.PrintWords Go.Proofs.YtaofjgnhapnndaaW.PrintLast Go.Proofs.YtaofjgnhapnndaaW.PrintMore
set_option linter.unusedVariables false
set_option linter.unusedSimpArgs false
def insL (a : ByteArray) : List ByteArray → List ByteArray
  | [] => [a]
  | x :: t => if Op.bytesLess x.toList a.toList = true then x :: insL a t else if x.toList == a.toList then x :: t else a :: x :: t
def AscS (l : List ByteArray) : Prop := l.Pairwise fun a b => Op.bytesLess a.toList b.toList = true
def insAll (has things : List ByteArray) : List ByteArray := things.foldl (fun h a => insL a h) has
theorem insL_same (a : ByteArray) : ∀ l : List ByteArray, insF a l = true → insL a l = l
  | [], h => by cases h
  | x :: t, h => by
    unfold insF at h
    unfold insL
    by_cases hc : Op.bytesLess x.toList a.toList = true
    · rw [if_pos hc] at h ⊢
      rw [insL_same a t h]
    · rw [if_neg hc] at h ⊢
      rw [if_pos h]
theorem insL_mem (a s : ByteArray) : ∀ l : List ByteArray, s ∈ insL a l ↔ s = a ∨ s ∈ l
  | [] => by simp [insL]
  | x :: t => by
    unfold insL
    by_cases hc : Op.bytesLess x.toList a.toList = true
    · rw [if_pos hc, List.mem_cons, insL_mem a s t, List.mem_cons]
      constructor
      · rintro (h | h | h) <;> simp [h]
      · rintro (h | h | h) <;> simp [h]
    · rw [if_neg hc]
      by_cases he : (x.toList == a.toList) = true
      · rw [if_pos he]
        have e : x = a := toList_inj.1 (by simpa using he)
        subst e
        simp
      · rw [if_neg he, List.mem_cons]
theorem insL_len (a : ByteArray) : ∀ l : List ByteArray, (insL a l).length ≤ l.length + 1
  | [] => by simp [insL]
  | x :: t => by
    unfold insL
    have := insL_len a t
    split
    · simp only [List.length_cons]; omega
    · split <;> simp only [List.length_cons] <;> omega
theorem insL_asc (a : ByteArray) : ∀ l : List ByteArray, AscS l → AscS (insL a l)
  | [], _ => List.pairwise_singleton _ _
  | x :: t, h => by
    obtain ⟨h1, h2⟩ := List.pairwise_cons.1 h
    unfold insL
    by_cases hc : Op.bytesLess x.toList a.toList = true
    · rw [if_pos hc]
      refine List.pairwise_cons.2 ⟨fun s hs => ?_, insL_asc a t h2⟩
      rcases (insL_mem a s t).1 hs with rfl | hs
      · exact hc
      · exact h1 s hs
    · rw [if_neg hc]
      by_cases he : (x.toList == a.toList) = true
      · rw [if_pos he]; exact h
      · rw [if_neg he]
        have hxa : Op.bytesLess a.toList x.toList = true := bl_flip (by simpa using hc) (by simpa using he)
        refine List.pairwise_cons.2 ⟨fun s hs => ?_, h⟩
        rcases List.mem_cons.1 hs with rfl | hs
        · exact hxa
        · exact bl_trans hxa (h1 s hs)
theorem insAll_mem (s : ByteArray) : ∀ (things has : List ByteArray), s ∈ insAll has things ↔ s ∈ has ∨ s ∈ things
  | [], has => by simp [insAll]
  | a :: t, has => by
    show s ∈ insAll (insL a has) t ↔ _
    rw [insAll_mem s t, insL_mem, List.mem_cons]
    constructor
    · rintro ((h | h) | h) <;> simp [h]
    · rintro (h | h | h) <;> simp [h]
theorem insAll_asc : ∀ (things has : List ByteArray), AscS has → AscS (insAll has things)
  | [], _, h => h
  | a :: t, has, h => insAll_asc t (insL a has) (insL_asc a has h)
theorem insAll_len : ∀ (things has : List ByteArray), (insAll has things).length ≤ has.length + things.length
  | [], has => by simp [insAll]
  | a :: t, has => by
    have h1 := insAll_len t (insL a has)
    have h2 := insL_len a has
    show (insAll (insL a has) t).length ≤ _
    simp only [List.length_cons]; omega
theorem insAll_snoc (has l : List ByteArray) (a : ByteArray) : insAll has (l ++ [a]) = insL a (insAll has l) := by
  unfold insAll; rw [List.foldl_append]; rfl
theorem asc_same : ∀ (a b : List ByteArray), AscS a → AscS b → (∀ s, s ∈ a ↔ s ∈ b) → a = b
  | [], [], _, _, _ => rfl
  | [], y :: b, _, _, h => absurd ((h y).2 (List.mem_cons_self ..)) (by simp)
  | x :: a, [], _, _, h => absurd ((h x).1 (List.mem_cons_self ..)) (by simp)
  | x :: a, y :: b, ha, hb, h => by
    obtain ⟨a1, a2⟩ := List.pairwise_cons.1 ha
    obtain ⟨b1, b2⟩ := List.pairwise_cons.1 hb
    have irr : ∀ z : ByteArray, ¬ Op.bytesLess z.toList z.toList = true := fun z hz => by
      rw [bytesLess_eq, decide_eq_true_eq] at hz; exact List.lt_irrefl _ hz
    have e : x = y := by
      rcases List.mem_cons.1 ((h x).1 (List.mem_cons_self ..)) with e | e
      · exact e
      · rcases List.mem_cons.1 ((h y).2 (List.mem_cons_self ..)) with e2 | e2
        · exact e2.symm
        · exact absurd (bl_trans (a1 y e2) (b1 x e)) (irr x)
    subst e
    rw [asc_same a b a2 b2 fun s => ?_]
    constructor
    · intro hs
      rcases List.mem_cons.1 ((h s).1 (List.mem_cons_of_mem _ hs)) with e | e
      · subst e; exact absurd (a1 s hs) (irr s)
      · exact e
    · intro hs
      rcases List.mem_cons.1 ((h s).2 (List.mem_cons_of_mem _ hs)) with e | e
      · subst e; exact absurd (b1 s hs) (irr s)
      · exact e
theorem bl_toList (s : ByteArray) : bl s = s.toList := (ByteArray.toList_eq s).symm
theorem mem_mkB {s : ByteArray} {l : List (List UInt8)} : s ∈ l.map mkB ↔ bl s ∈ l := by
  rw [List.mem_map]
  constructor
  · rintro ⟨x, hx, rfl⟩; rw [bl_mk]; exact hx
  · intro h; exact ⟨bl s, h, mk_bl s⟩
theorem mem_bl {x : List UInt8} {l : List ByteArray} : x ∈ l.map bl ↔ mkB x ∈ l := by
  rw [List.mem_map]
  constructor
  · rintro ⟨s, hs, rfl⟩; rw [mk_bl]; exact hs
  · intro h; exact ⟨mkB x, h, bl_mk x⟩
theorem sortS_mem (s : ByteArray) (xs : List ByteArray) : s ∈ sortS xs ↔ s ∈ xs := by
  unfold sortS
  rw [mem_mkB, List.mem_mergeSort, mem_bl, mk_bl]
theorem sortS_asc (xs : List ByteArray) : (sortS xs).Pairwise fun a b => ¬ bl b < bl a := by
  unfold sortS
  rw [List.pairwise_map]
  refine (List.pairwise_mergeSort (le := fun x y : List UInt8 => decide (x ≤ y)) ?_ ?_ (xs.map bl)).imp fun {a b} h => ?_
  · intro a b c h1 h2
    rw [decide_eq_true_eq] at *
    exact List.le_trans h1 h2
  · intro a b
    rw [Bool.or_eq_true, decide_eq_true_eq, decide_eq_true_eq]
    exact List.le_total a b
  · rw [bl_mk, bl_mk]
    exact List.not_lt.2 (by simpa using h)
theorem compS_mem (s : ByteArray) (xs : List ByteArray) : s ∈ compS xs ↔ s ∈ xs := by
  unfold compS
  rw [mem_mkB]
  unfold Lib.compact Lib.compactUpTo
  simp only [List.mem_map, List.mem_filter, List.mem_range, List.length_map]
  constructor
  · rintro ⟨j, ⟨hj, _⟩, e⟩
    rw [getElem!_pos _ j (by simpa using hj)] at e
    simp only [List.getElem_toArray, List.getElem_map] at e
    have : xs[j] = s := by rw [← mk_bl s, ← e, mk_bl]
    rw [← this]; exact List.getElem_mem hj
  · intro hs
    obtain ⟨j, hj, rfl⟩ := List.getElem_of_mem hs
    have go : ∀ (n i : Nat), i ≤ n → (hi : i < xs.length) → xs[i] = xs[j] → ∃ a, (a < xs.length ∧ Lib.keeps (xs.map bl).toArray a = true) ∧ (xs.map bl).toArray[a]! = bl xs[j] := by
      intro n
      induction n with
      | zero =>
        intro i hn hi e
        have : i = 0 := by omega
        subst this
        exact ⟨0, ⟨hi, Lib.keeps_lt_one _ 0 (by omega)⟩, by rw [getElem!_pos _ 0 (by simpa using hi)]; simp [e]⟩
      | succ n ih =>
        intro i hn hi e
        by_cases hk : Lib.keeps (xs.map bl).toArray i = true
        · exact ⟨i, ⟨hi, hk⟩, by rw [getElem!_pos _ i (by simpa using hi)]; simp [e]⟩
        · unfold Lib.keeps at hk
          simp only [decide_eq_true_eq, not_or, Classical.not_not, ne_eq] at hk
          obtain ⟨h0, h1⟩ := hk
          rw [getElem!_pos _ i (by simpa using hi), getElem!_pos _ (i - 1) (by simp; omega)] at h1
          simp only [List.getElem_toArray, List.getElem_map] at h1
          have h2 : xs[i - 1]'(by omega) = xs[j] := by
            rw [← e, ← mk_bl (xs[i - 1]'(by omega)), ← h1, mk_bl]
          exact ih (i - 1) (by omega) (by omega) h2
    exact go j j (Nat.le_refl _) hj rfl
theorem compS_asc {xs : List ByteArray} (h : xs.Pairwise fun a b => ¬ bl b < bl a) : AscS (compS xs) := by
  have hpw := List.pairwise_iff_getElem.1 h
  unfold compS AscS Lib.compact Lib.compactUpTo
  rw [List.pairwise_map, List.pairwise_map, List.pairwise_filter]
  simp only [List.length_map]
  refine List.Pairwise.imp_of_mem (R := fun a b => a < b) (fun {a b} ha hb hab _ hkb => ?_) List.pairwise_lt_range
  have ha := List.mem_range.1 ha
  have hb := List.mem_range.1 hb
  rw [← bl_toList, ← bl_toList, bl_mk, bl_mk, bytesLess_eq, decide_eq_true_eq]
  unfold Lib.keeps at hkb
  simp only [decide_eq_true_eq] at hkb
  rcases hkb with hkb | hkb
  · omega
  rw [getElem!_pos _ a (by simpa using ha), getElem!_pos _ b (by simpa using hb)]
  rw [getElem!_pos _ b (by simpa using hb), getElem!_pos _ (b - 1) (by simp; omega)] at hkb
  simp only [List.getElem_toArray, List.getElem_map] at hkb ⊢
  have h1 : ¬ bl (xs[b - 1]'(by omega)) < bl (xs[a]'ha) := by
    by_cases e : a = b - 1
    · subst e; exact List.lt_irrefl _
    · exact hpw a (b - 1) ha (by omega) (by omega)
  have h2 : ¬ bl (xs[b]'hb) < bl (xs[b - 1]'(by omega)) := hpw (b - 1) b (by omega) hb (by omega)
  have h3 : bl (xs[b - 1]'(by omega)) < bl (xs[b]'hb) := by
    by_cases h4 : bl (xs[b - 1]'(by omega)) < bl (xs[b]'hb)
    · exact h4
    · exact absurd (List.le_antisymm (List.not_lt.1 h4) (List.not_lt.1 h2)) hkb
  exact List.lt_of_le_of_lt (List.not_lt.1 h1) h3
theorem insAll_sort {has : List ByteArray} (h : AscS has) (things : List ByteArray) : compS (sortS (has ++ things)) = insAll has things :=
  asc_same _ _ (compS_asc (sortS_asc _)) (insAll_asc things has h) fun s => by rw [compS_mem, sortS_mem, insAll_mem, List.mem_append]
theorem names_asc {l all : List ByteArray} (h : namesB l all = true) : AscS l := by
  unfold namesB at h
  have hall := (allR_iff _ _ _).1 h
  have hstep : ∀ i (hi : i + 1 < l.length), Op.bytesLess (l[i]'(by omega)).toList l[i + 1].toList = true := by
    intro i hi
    have q := hall (i + 1) (by omega) hi
    unfold namesP at q
    simp only [Bool.and_eq_true, Bool.or_eq_true, decide_eq_true_eq] at q
    rcases q.2 with q3 | q3
    · omega
    · unfold ltB gS at q3
      rw [getD_lt l _ (show i + 1 - 1 < l.length by omega), getD_lt l _ hi] at q3
      exact q3
  unfold AscS
  rw [List.pairwise_iff_getElem]
  have go : ∀ (d i : Nat) (hd : i + d + 1 < l.length), Op.bytesLess (l[i]'(by omega)).toList (l[i + d + 1]'hd).toList = true := by
    intro d
    induction d with
    | zero => intro i hd; exact hstep i hd
    | succ d ih => intro i hd; exact bl_trans (ih i (by omega)) (hstep (i + d + 1) (by omega))
  intro i j hi hj hij
  have := go (j - i - 1) i (by omega)
  simpa only [show i + (j - i - 1) + 1 = j by omega] using this
theorem book_has {ts : List ByteArray} {bs : List IB} (h : bookB ts bs = true) {i : Nat} (hi : i < bs.length) : AscS (gB bs i).f1 := by
  unfold bookB at h
  simp only [Bool.and_eq_true, decide_eq_true_eq] at h
  have q := (allR_iff _ _ _).1 h.2.2 i (by omega) hi
  unfold batchP at q
  simp only [Bool.and_eq_true] at q
  exact names_asc q.1.2.2.2
end Go.Proofs.Ytaofjgnhapnndaa.Q
