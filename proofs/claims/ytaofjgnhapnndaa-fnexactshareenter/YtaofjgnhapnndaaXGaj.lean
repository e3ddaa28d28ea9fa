/- Texts that the row needs: words on memory and rows, the contracts of the functions it reaches, and the plain lemmas on what they compute. -/
import Derived.Test.YtaofjgnhapnndaaProg
import Derived.Below
import Derived.Deep.Draws
import Derived.Deep.AppendLies
import Derived.Maps.AppendAt
import Derived.OwnWalk
import Derived.Laws.BytesArg
import Derived.Laws.MakeOwn
import Derived.Laws.OwnMore
import Derived.Deep.OwnRows
import Derived.Tactics
import Derived.Lib.ConvBytes
import Derived.Laws.Slices
import Derived.WalkKit
import Derived.KernelRfl
import Derived.RowKit3
import Derived.Deep.LoopGhost
import Derived.Deep.QuietTactic
import Derived.BigQuiet
import Derived.WideLaws
import Derived.Deep.DeepCutAuto
import Derived.Deep.CutBlock
import Derived.Deep.RegionHeld3
import Derived.Laws.Rows
import Derived.Lib.AppendStr
import Derived.ArgAppend
import Derived.Laws.IdiomCopy
import Derived.OrdersHeld
import Derived.Laws.BitsLemmas
import Derived.RowKit
import Derived.WalkLawsBesides
import Derived.Laws.StructEq
import Derived.Shelf.GgSortFunc.Tiny
import Derived.Shelf.GgSortFunc.SmallK
import Derived.Ground.GgsProg
import Derived.Test.YtaofjgnhapnndaaRows
import Derived.ProofKit
import Derived.Test.YtaofjgnhapnndaaXGaa
import Derived.Test.YtaofjgnhapnndaaXGab
import Derived.Test.YtaofjgnhapnndaaXGac
import Derived.Test.YtaofjgnhapnndaaXGad
import Derived.Test.YtaofjgnhapnndaaXGae
import Derived.Test.YtaofjgnhapnndaaXGaf
import Derived.Test.YtaofjgnhapnndaaXGag
import Derived.Test.YtaofjgnhapnndaaXGah
import Derived.Test.YtaofjgnhapnndaaXGai
open Go.Proofs.YtaofjgnhapnndaaFG
namespace Go.Proofs.Ytaofjgnhapnndaa.Q
open Go.RowKit Go.Proofs.YtaofjgnhapnndaaW.PrintWords Go.Proofs.YtaofjgnhapnndaaW.PrintLast Go.Proofs.YtaofjgnhapnndaaW.PrintMore
set_option linter.unusedVariables false
set_option linter.unusedSimpArgs false
open Go.Shelf Go.Lib Go.Sort
theorem heap_grow_lt {w : World} {os : Array Obj} {k : Nat} (h : k < w.heap.size) : (Sort.grow w os).heap[k]? = w.heap[k]? := by
  unfold Sort.grow
  simp only [Array.getElem?_append, if_pos h]
set_option maxHeartbeats 4000000 in
set_option maxRecDepth 100000 in
theorem enter_sort {w0 w : World} {g cap gb : Nat} {P : Nat → Prop} {v0 : Value} {xs : List S56} (h : Kd.S k56 56 w w0.heap.size P (.slice (some ⟨g, 0, none⟩) xs.length cap) xs)
    (hbk : w.heap[gb]? = some (.cells #[v0, .slice (some ⟨g, 0, none⟩) xs.length cap] 31 (0, 0))) (hne : gb ≠ g) (h2 : 2 ≤ xs.length) (h12 : xs.length ≤ 12) (hB : Go.RowKit.Below w0.heap.size w0 w) :
    Calls Try.prog 103 #[.iface 29 (.slice (some ⟨g, 0, none⟩) xs.length cap), .func (.func 104) #[] #[.pointer (some ⟨gb, 0, none⟩)]] w fun e w' => e = .returned (.tuple #[]) ∧
      ∃ xs' : List S56, xs'.Perm xs ∧ xs'.Pairwise (fun a b => Op.bytesLess b.f0.toList a.f0.toList = false) ∧ Kd.S k56 56 w' w0.heap.size P (.slice (some ⟨g, 0, none⟩) xs.length cap) xs' ∧ Go.RowKit.Below w0.heap.size w0 w' ∧ Kept w w' (fun k => k = g) := by
  obtain ⟨hP, hb, hn, hnc, hm, cur, Z, hh, hs, hx, ht, hpw, hZ⟩ := S_toZ h
  clear h
  have hzl : Z.length = xs.length := by rw [← hx, List.length_map]
  have hds : ((Z.map EZ.c).toArray).size = xs.length := by simp [hzl]
  have hF : (flatK encE 3 (Z.map EZ.c).toArray).toList = cur.toList.take (xs.length * 3) := by
    rw [ec_flat, List.map_map, ht]; rfl
  have hFs : (flatK encE 3 (Z.map EZ.c).toArray).size = xs.length * 3 := by rw [size_flatK, hds]
  have hgl : g < w.heap.size := blk_lt hh
  have hgb : gb < w.heap.size := blk_lt hbk
  have hH : HoldsK encE 3 w g 0 (Z.map EZ.c).toArray := by
    intro j hj
    rw [hFs] at hj
    refine ⟨?_, blk_frozen hh _⟩
    rw [Nat.zero_add, blk_cell hh j, getElem!_pos _ j (by rw [hFs]; exact hj)]
    have e : (cur.toList.take (xs.length * 3))[j]? = (flatK encE 3 (Z.map EZ.c).toArray).toList[j]? := by rw [hF]
    rw [List.getElem?_take, if_pos hj, Array.getElem?_toList, Array.getElem?_toList, Array.getElem?_eq_getElem (xs := flatK encE 3 (Z.map EZ.c).toArray) (by rw [hFs]; exact hj)] at e
    exact e
  have hless : LessReadsK Try.prog 104 #[.pointer (some ⟨gb, 0, none⟩)] encE 3 ltE g 0 (Z.map EZ.c).toArray.size w := by
    intro m os dk hs2 i j hi hj
    rw [hds] at hs2 hi hj
    have hgl2 : g < (Sort.ahead w m).heap.size := hgl
    have e : sortWorldK encE 3 w g 0 m dk os = putRowK encE 3 (Sort.grow (Sort.ahead w m) os) g 0 dk := by
      unfold sortWorldK; rw [putRowK_grow _ _ (Sort.ahead w m) _ g 0 _ hgl2]
    have hHg : HoldsK encE 3 (Sort.grow (Sort.ahead w m) os) g 0 (Z.map EZ.c).toArray := holdsK_grow _ _ _ _ g 0 _ hgl2 (holdsK_ahead _ _ _ _ _ _ _ hH)
    have hbox : (sortWorldK encE 3 w g 0 m dk os).heap[gb]? = some (.cells #[v0, .slice (some ⟨g, 0, none⟩) xs.length cap] 31 (0, 0)) := by
      unfold sortWorldK putRowK
      rw [heap_grow_lt (by rw [size_putRow]; exact hgb), putRow_else hne]
      exact hbk
    refine enter_less g cap gb xs.length v0 _ (fun t => dk[t]!.1) ((blk_cell hbox 1).trans rfl) ((blk_cell hbox 0).trans rfl) (fun t ht2 => ?_) i j hi hj (by omega)
    rw [e]
    exact ((holdsK_putRowK _ _ _ g 0 _ dk hHg (by rw [hs2, hds])).cell (i := t) (c := 0) (by omega) (by omega)).1
  have hS := Any.sort_Slice_small_cells_sorted lay_sort 29 56 enter_T enter_E (by kernel_rfl) (by kernel_rfl) (by kernel_rfl) (by kernel_rfl) 25 (fun _ => by kernel_rfl) encE 3 (fun _ => rfl) (by kernel_rfl) (fun _ => by kernel_rfl)
    (fun x v hv => by simp [encE] at hv; rcases hv with rfl | rfl | rfl <;> rfl) ltE swo_ltE 104 _
    (enters_of Try.func104 (by kernel_rfl) rfl) g 0 cap (Z.map EZ.c).toArray (by rw [hds]; exact h2) (by rw [hds]; exact h12) 141 (by rw [enter_K _ (by rw [hds]; exact h2)]; kernel_rfl) false
    (fun args W => run_callFunc_extern Try.func141 (by kernel_rfl) (by kernel_rfl) (by kernel_rfl) (e := Extern.ReflectliteSwapper.swap false) (by kernel_rfl) args W) w hless hH hgl
  change Calls Try.prog 103 _ _ _ at hS
  rw [hds] at hS
  refine hS.mono ?_
  rintro e w' ⟨he, d', n, os, hPm, hSo, rfl⟩
  refine ⟨he, ?_⟩
  have hsz : d'.size = xs.length := hPm.1.trans hds
  have hperm : d'.toList.Perm (Z.map EZ.c) := by
    have := hPm.2.2
    rw [show d'.extract 0 xs.length = d' by rw [← hsz]; simp, show (Z.map EZ.c).toArray.extract 0 xs.length = (Z.map EZ.c).toArray by rw [← hds]; exact Array.extract_size] at this
    simpa using this
  obtain ⟨Z', hZp, hZm⟩ := perm_lift EZ.c hperm.symm
  have hzl' : Z'.length = xs.length := hZp.length_eq.trans hzl
  refine ⟨Z'.map EZ.x, by rw [← hx]; exact hZp.map _, ?_, ?_, ?_, ?_⟩
  · rw [List.pairwise_map, List.pairwise_iff_getElem]
    intro i j hi hj hij
    have q := hSo i j (Nat.zero_le _) hij (by omega)
    rw [getElem!_pos d' j (by omega), getElem!_pos d' i (by omega)] at q
    have ei : d'[i]'(by omega) = Z'[i].c := by
      have : d'.toList[i]'(by rw [Array.length_toList]; omega) = (Z'.map EZ.c)[i]'(by rw [List.length_map]; exact hi) := by congr 1; exact hZm.symm
      rw [List.getElem_map] at this; rw [← this]; rfl
    have ej : d'[j]'(by omega) = Z'[j].c := by
      have : d'.toList[j]'(by rw [Array.length_toList]; omega) = (Z'.map EZ.c)[j]'(by rw [List.length_map]; exact hj) := by congr 1; exact hZm.symm
      rw [List.getElem_map] at this; rw [← this]; rfl
    rw [ei, ej] at q
    have ni := (hZ Z'[i] (hZp.subset (List.getElem_mem hi))).1
    have nj := (hZ Z'[j] (hZp.subset (List.getElem_mem hj))).1
    rw [← ni, ← nj]
    exact q
  · have hkp : Kept w (Sort.grow (putRowK encE 3 (Sort.ahead w n) g 0 d') os) (fun k => k = g) := by
      refine ⟨?_, fun k hk hne2 => ?_⟩
      · unfold Sort.grow putRowK; simp only [Array.size_append, size_putRow]; exact Nat.le_add_right _ _
      · unfold putRowK; rw [heap_grow_lt (by rw [size_putRow]; exact hk), putRow_else hne2]; rfl
    have hF' : (flatK encE 3 d').size = xs.length * 3 := by rw [size_flatK, hsz]
    have hp2 := putCells_take (flatK encE 3 d') cur (by rw [hF', hs]; omega)
    refine S_ofZ (Z := Z') (w := w) (cur := putCells id 0 (flatK encE 3 d') cur) hP hb hzl'.symm hnc hm ?_ (hp2.2.trans hs) ?_ ((List.Perm.pairwise_iff (fun {a b} hab k h1 h2 => hab k h2 h1) hZp).2 hpw) (fun z hz => (hZ z (hZp.subset hz)).2) hkp
    · unfold putRowK; rw [heap_grow_lt (by rw [size_putRow]; exact hgl)]
      exact putRow_heap (w := Sort.ahead w n) hh
    · rw [← hF', hp2.1]
      have e3 : d' = (Z'.map EZ.c).toArray := by rw [hZm]
      rw [e3, ec_flat, List.map_map]; rfl
  · refine ⟨hB.os, hB.tape, hB.output, ?_, fun k hk => ?_⟩
    · unfold Sort.grow putRowK; simp only [Array.size_append, size_putRow]; exact Nat.le_trans hB.size (Nat.le_add_right _ _)
    · have hk2 : k < w.heap.size := Nat.lt_of_lt_of_le hk hB.size
      unfold putRowK; rw [heap_grow_lt (by rw [size_putRow]; exact hk2), putRow_else (by omega)]
      exact hB.block k hk
  · refine ⟨?_, fun k hk hne2 => ?_⟩
    · unfold Sort.grow putRowK; simp only [Array.size_append, size_putRow]; exact Nat.le_add_right _ _
    · unfold putRowK; rw [heap_grow_lt (by rw [size_putRow]; exact hk), putRow_else hne2]; rfl
theorem below_grow (w : World) (os : Array Obj) : Go.RowKit.Below w.heap.size w (Sort.grow w os) :=
  ⟨rfl, rfl, rfl, by unfold Sort.grow; simp only [Array.size_append]; exact Nat.le_add_right _ _, fun k hk => heap_grow_lt hk⟩
theorem enter_K1 : Lib.swapperK 1 enter_E 25 = 2 := by simp [Lib.swapperK]
set_option maxRecDepth 100000 in
theorem enter_sort_all {w0 w : World} {g cap gb : Nat} {P : Nat → Prop} {v0 : Value} {xs : List S56} (h : Kd.S k56 56 w w0.heap.size P (.slice (some ⟨g, 0, none⟩) xs.length cap) xs)
    (hbk : w.heap[gb]? = some (.cells #[v0, .slice (some ⟨g, 0, none⟩) xs.length cap] 31 (0, 0))) (hne : gb ≠ g) (h1 : 1 ≤ xs.length) (h12 : xs.length ≤ 12) (hB : Go.RowKit.Below w0.heap.size w0 w) :
    Calls Try.prog 103 #[.iface 29 (.slice (some ⟨g, 0, none⟩) xs.length cap), .func (.func 104) #[] #[.pointer (some ⟨gb, 0, none⟩)]] w fun e w' => e = .returned (.tuple #[]) ∧
      ∃ xs' : List S56, xs'.Perm xs ∧ xs'.Pairwise (fun a b => Op.bytesLess b.f0.toList a.f0.toList = false) ∧ Kd.S k56 56 w' w0.heap.size P (.slice (some ⟨g, 0, none⟩) xs.length cap) xs' ∧ Go.RowKit.Below w0.heap.size w0 w' ∧ Kept w w' (fun k => k = g) := by
  by_cases h2 : 2 ≤ xs.length
  · exact enter_sort h hbk hne h2 h12 hB
  · have e1 : xs.length = 1 := by omega
    have hS := Any.sort_Slice_tiny lay_sort 29 56 enter_T enter_E (by kernel_rfl) (by kernel_rfl) (by kernel_rfl) (by kernel_rfl) 25 (fun _ => by kernel_rfl) (some ⟨g, 0, none⟩) xs.length cap (by omega) 134 (by rw [e1, enter_K1]; kernel_rfl) (.func 104) #[] #[.pointer (some ⟨gb, 0, none⟩)] w
    change Calls Try.prog 103 _ _ _ at hS
    refine hS.mono ?_
    rintro e w' ⟨he, os, rfl⟩
    have hb := below_grow w os
    refine ⟨he, xs, List.Perm.refl _, ?_, Kd.S_below h hb, below_step hB hb, Kept.of_below hb _⟩
    exact List.pairwise_iff_getElem.2 (fun i j hi hj hij => absurd hij (by omega))
def insK (l : List S56) (n : ByteArray) : Nat := (l.takeWhile fun b => Op.bytesLess b.f0.toList n.toList).length
def insB (l : List S56) (x : S56) : List S56 := l.take (insK l x.f0) ++ x :: l.drop (insK l x.f0)
theorem insB_perm (l : List S56) (x : S56) : (insB l x).Perm (l ++ [x]) := by
  unfold insB
  refine List.perm_middle.trans ?_
  rw [List.take_append_drop]
  exact (List.perm_append_comm (l₁ := [x]) (l₂ := l))
def Asc (l : List S56) : Prop := l.Pairwise fun a b => Op.bytesLess a.f0.toList b.f0.toList = true
theorem bytesLess_asymm {a b : List UInt8} (h : Op.bytesLess a b = true) : Op.bytesLess b a = false := by
  rw [bytesLess_eq, decide_eq_true_eq] at h
  rw [bytesLess_eq, decide_eq_false_iff_not]
  exact fun h2 => List.lt_irrefl _ (List.lt_trans h h2)
theorem asc_unique {l t : List S56} (hp : l.Perm t) (hl : l.Pairwise fun a b => Op.bytesLess b.f0.toList a.f0.toList = false) (ht : Asc t) : l = t := by
  have ht2 : t.Pairwise fun a b => Op.bytesLess b.f0.toList a.f0.toList = false := ht.imp fun h => bytesLess_asymm h
  have hall : ∀ a ∈ t, ∀ b ∈ t, a = b ∨ Op.bytesLess a.f0.toList b.f0.toList = true ∨ Op.bytesLess b.f0.toList a.f0.toList = true := by
    intro a ha b hb
    obtain ⟨i, hi, rfl⟩ := List.getElem_of_mem ha
    obtain ⟨j, hj, rfl⟩ := List.getElem_of_mem hb
    have hpw := List.pairwise_iff_getElem.1 ht
    rcases Nat.lt_trichotomy i j with h | h | h
    · exact Or.inr (Or.inl (hpw i j hi hj h))
    · subst h; exact Or.inl rfl
    · exact Or.inr (Or.inr (hpw j i hj hi h))
  refine List.Perm.eq_of_pairwise (le := fun a b => Op.bytesLess b.f0.toList a.f0.toList = false) (fun a b ha hb h1 h2 => ?_) hl ht2 hp
  rcases hall a (hp.subset ha) b hb with h | h | h
  · exact h
  · rw [h] at h2; cases h2
  · rw [h] at h1; cases h1
end Go.Proofs.Ytaofjgnhapnndaa.Q
namespace Go.Proofs.Ytaofjgnhapnndaa.Q
open Go.RowKit Go.Proofs.YtaofjgnhapnndaaW.PrintWords Go.Proofs.YtaofjgnhapnndaaW.PrintLast Go.Proofs.YtaofjgnhapnndaaW.PrintMore
set_option linter.unusedVariables false
set_option linter.unusedSimpArgs false
def slices_Index_string_string.l0 : Nat → List ByteArray → ByteArray → Int → Int → Option (Int)
 | 0, _, _, _, _ => none
 | k + 1, x0, x1, x7, x8 => if x8 < x7 then (if 0 ≤ x8 then (if x8 < (x0.length : Int) then (if x1.toList = (rdOf ByteArray.empty x0 x8).toList then (some x8) else (slices_Index_string_string.l0 k x0 x1 x7 (wrap64 (x8 + 1)))) else (none)) else (none)) else (some (-1))
def slices_Index_string_string.f (k : Nat) (l0 : List ByteArray) (a1 : ByteArray) : Option (Int) := slices_Index_string_string.l0 k l0 a1 (l0.length : Int) 0
theorem slices_Index_string_string.mono_l : ∀ k, (∀ y0 y1 y2 y3, LeO (slices_Index_string_string.l0 k y0 y1 y2 y3) (slices_Index_string_string.l0 (k + 1) y0 y1 y2 y3))
 | 0 => fun _ _ _ _ r h => by simp [slices_Index_string_string.l0] at h
 | k + 1 => by
  have ih0 := slices_Index_string_string.mono_l k
  ·intro y0 y1 y2 y3
   unfold slices_Index_string_string.l0
   repeat' first
   | (with_reducible exact ih0 _ _ _ _)
   | (with_reducible exact LeO.refl _)
   | (with_reducible exact LeO.none _)
   | (with_reducible refine LeO.ite ?_ ?_)
   | (with_reducible refine LeO.bind ?_ (fun _ => ?_))
   | exact ih0 _ _ _ _
   | exact LeO.none _
   | refine LeO.ite ?_ ?_
   | refine LeO.bind ?_ (fun _ => ?_)
theorem slices_Index_string_string.mono : ∀ a0 a1 k, LeO (slices_Index_string_string.f k a0 a1) (slices_Index_string_string.f (k + 1) a0 a1) := by
 intro a0 a1 k
 have ih0 := slices_Index_string_string.mono_l k
 unfold slices_Index_string_string.f
 repeat' first
   | (with_reducible exact ih0 _ _ _ _)
   | (with_reducible exact LeO.refl _)
   | (with_reducible exact LeO.none _)
   | (with_reducible refine LeO.ite ?_ ?_)
   | (with_reducible refine LeO.bind ?_ (fun _ => ?_))
   | exact ih0 _ _ _ _
   | exact LeO.none _
   | refine LeO.ite ?_ ?_
   | refine LeO.bind ?_ (fun _ => ?_)
set_option maxHeartbeats 8000000 in
set_option maxRecDepth 100000 in
theorem slices_Index_string_string.calls (k : Nat) (A0 : Option Addr) (c0 : Nat) (l0 : List ByteArray) (a1 : ByteArray) (r : Int) (w : World) (hr0 : Kd.C Kd.string w A0 l0.length l0) (hc0 : l0.length ≤ c0) (h : slices_Index_string_string.f k l0 a1 = some r) :
  Calls Try.prog 116 #[.slice A0 l0.length c0, .string a1] w fun e w' => e = .returned (.int .i64 r) ∧ Drawn0 w w' := by
 have HR0 := Aside0.mk hr0
 have HC0 := Aside0.mk hc0
 clear hr0 hc0
 have H : (slices_Index_string_string.l0 k l0 a1 (l0.length : Int) 0) = some r := h
 clear h
 have H' := Aside0.mk H
 clear H
 go_enter Try.func116, Try.ntmps116
 go_wp2
 go_loopg [8] k (fun kq v8 w' => ∃ (x8_1 : Int), v8 = .int .i64 x8_1 ∧ Aside0 (slices_Index_string_string.l0 kq l0 a1 (l0.length : Int) x8_1 = some r) ∧ Aside0 (kq ≤ k) ∧ Drawn0 w w')
 case atStart => exact ⟨(0), (pY51), H', ⟨Nat.le_refl _⟩, pY49⟩
 case round =>
  clear H'
  try clear c1
  try clear p2
  obtain ⟨x8_1, rfl, HA, HK1, ⟨m1, rfl⟩⟩ := hrel
  cases gk with
  | zero => exact absurd HA.out (by simp [slices_Index_string_string.l0])
  | succ k1 =>
   have H := HA.out
   clear HA
   simp only [slices_Index_string_string.l0] at H
   by_cases c3 : x8_1 < (l0.length : Int)
   ·rw [if_pos c3] at H
    have c3b0 : decide (x8_1 < (l0.length : Int)) = true := decide_eq_true c3
    clear c3
    by_cases c4 : 0 ≤ x8_1
    ·rw [if_pos c4] at H
     have c4b0 : decide (0 ≤ x8_1) = true := decide_eq_true c4
     clear c4
     by_cases c5 : x8_1 < (l0.length : Int)
     ·rw [if_pos c5] at H
      have c5b0 : decide (x8_1 < (l0.length : Int)) = true := decide_eq_true c5
      clear c5
      by_cases c6 : a1.toList = (rdOf ByteArray.empty l0 x8_1).toList
      ·rw [if_pos c6] at H
       have c6b0 : (a1.toList == (rdOf ByteArray.empty l0 x8_1).toList) = true := beq_iff_eq.mpr c6
       have c6b1 : (a1.toList != (rdOf ByteArray.empty l0 x8_1).toList) = false := bne_eq_false_iff_eq.mpr c6
       clear c6
       obtain rfl := Option.some.inj H
       have p101 : 0 ≤ (x8_1 : Int) := of_decide_eq_true (pY50)
       have q101 : x8_1 < (l0.length : Int) := of_decide_eq_true (pY50)
       obtain ⟨ad101, e101, hx101_0⟩ := Kd.at_string HR0.1 x8_1 p101 q101
       cases e101
       replace p101 := eq_true p101
       replace q101 := eq_true q101
       go_wp2
       go_ret
       exact ⟨by first | rfl | (simp; done) | (simp [*]; done), pY49⟩
      ·rw [if_neg c6] at H
       have c6b0 : (a1.toList == (rdOf ByteArray.empty l0 x8_1).toList) = false := beq_eq_false_iff_ne.mpr c6
       have c6b1 : (a1.toList != (rdOf ByteArray.empty l0 x8_1).toList) = true := bne_iff_ne.mpr c6
       have H' := Aside0.mk H
       clear H
       have p101 : 0 ≤ (x8_1 : Int) := of_decide_eq_true (pY50)
       have q101 : x8_1 < (l0.length : Int) := of_decide_eq_true (pY50)
       obtain ⟨ad101, e101, hx101_0⟩ := Kd.at_string HR0.1 x8_1 p101 q101
       cases e101
       replace p101 := eq_true p101
       replace q101 := eq_true q101
       go_wp2
       go_roundg k1
       case measure => have := HK1.out; omega
       case rel => exact ⟨(wrap64 (x8_1 + 1)), (pY51), H', ⟨by have := HK1.out; omega⟩, pY49⟩
     ·rw [if_neg c5] at H
      exact absurd H (by simp)
    ·rw [if_neg c4] at H
     exact absurd H (by simp)
   ·rw [if_neg c3] at H
    have c3b0 : decide (x8_1 < (l0.length : Int)) = false := decide_eq_false c3
    clear c3
    obtain rfl := Option.some.inj H
    go_wp2
    go_ret
    exact ⟨by first | rfl | (simp; done) | (simp [*]; done), pY49⟩
end Go.Proofs.Ytaofjgnhapnndaa.Q
namespace Go.Proofs.Ytaofjgnhapnndaa.Q
open Go.RowKit Go.Proofs.YtaofjgnhapnndaaW.PrintWords Go.Proofs.YtaofjgnhapnndaaW.PrintLast Go.Proofs.YtaofjgnhapnndaaW.PrintMore
set_option linter.unusedVariables false
set_option linter.unusedSimpArgs false
def slices_Contains_string_string.f (k : Nat) (l0 : List ByteArray) (a1 : ByteArray) : Option (Bool) := (slices_Index_string_string.f k l0 a1).bind fun t101 => (some (decide (t101 ≥ 0)))
theorem slices_Contains_string_string.mono : ∀ a0 a1 k, LeO (slices_Contains_string_string.f k a0 a1) (slices_Contains_string_string.f (k + 1) a0 a1) := by
 intro a0 a1 k
 unfold slices_Contains_string_string.f
 repeat' first
   | (with_reducible exact slices_Index_string_string.mono _ _ _)
   | (with_reducible exact LeO.refl _)
   | (with_reducible exact LeO.none _)
   | (with_reducible refine LeO.ite ?_ ?_)
   | (with_reducible refine LeO.bind ?_ (fun _ => ?_))
   | exact slices_Index_string_string.mono _ _ _
   | exact LeO.none _
   | refine LeO.ite ?_ ?_
   | refine LeO.bind ?_ (fun _ => ?_)
set_option maxHeartbeats 8000000 in
set_option maxRecDepth 100000 in
theorem slices_Contains_string_string.calls (k : Nat) (A0 : Option Addr) (c0 : Nat) (l0 : List ByteArray) (a1 : ByteArray) (r : Bool) (w : World) (hr0 : Kd.C Kd.string w A0 l0.length l0) (hc0 : l0.length ≤ c0) (h : slices_Contains_string_string.f k l0 a1 = some r) :
  Calls Try.prog 81 #[.slice A0 l0.length c0, .string a1] w fun e w' => e = .returned (.bool r) ∧ Drawn0 w w' := by
 have HR0 := Aside0.mk hr0
 have HC0 := Aside0.mk hc0
 clear hr0 hc0
 have H : ((slices_Index_string_string.f k l0 a1).bind fun t101 => (some (decide (t101 ≥ 0)))) = some r := h
 clear h
 replace H := Option.bind_eq_some_iff.mp H
 obtain ⟨t101, A30, H⟩ := H
 replace H : (some (decide (t101 ≥ 0))) = some r := H
 have A3 := Aside0.mk A30
 clear A30
 obtain rfl := Option.some.inj H
 go_enter Try.func81, Try.ntmps81
 go_wp2_with (first | ((with_reducible refine gate_callee (f := 116) rfl ?_); refine goesL_ (some 7) rfl rfl Try.func116 (by kernel_rfl) rfl #[.slice A0 l0.length c0, .string a1] rfl (pY36) ?_; (with_reducible refine (slices_Index_string_string.calls k _ _ l0 a1 t101 _ ?side1 ?side2 A3.out).mono ?_); (case side1 => exact pC HR0.1); (case side2 => exact HC0.1); rintro e w' ⟨rfl, ⟨nd, rfl⟩⟩; refine ⟨_, rfl, ?_⟩))
 go_ret
 exact ⟨by first | rfl | (simp; done) | (simp [*]; done), pY49⟩
end Go.Proofs.Ytaofjgnhapnndaa.Q
namespace Go.Proofs.Ytaofjgnhapnndaa.Q
open Go.RowKit Go.Proofs.YtaofjgnhapnndaaW.PrintWords Go.Proofs.YtaofjgnhapnndaaW.PrintLast Go.Proofs.YtaofjgnhapnndaaW.PrintMore
set_option linter.unusedVariables false
set_option linter.unusedSimpArgs false
def impl_of.l0 : Nat → List ByteArray → List ByteArray → List ByteArray → Int → Int → Option (Bool)
 | 0, _, _, _, _, _ => none
 | k + 1, x0, x1, x7, x8, x9 => if x9 < x8 then (if 0 ≤ x9 then (if x9 < (x7.length : Int) then ((slices_Contains_string_string.f k x1 (rdOf ByteArray.empty x7 x9)).bind fun t102 => (if t102 = true then (if x9 > 0 then (if 0 ≤ (wrap64 (x9 - 1)) then (if (wrap64 (x9 - 1)) < (x0.length : Int) then (if ((Op.bytesLess ((rdOf ByteArray.empty x0 (wrap64 (x9 - 1))).toList) ((rdOf ByteArray.empty x7 x9).toList)) = true) then (impl_of.l0 k x0 x1 x7 x8 (wrap64 (x9 + 1))) else (some false)) else (none)) else (none)) else (impl_of.l0 k x0 x1 x7 x8 (wrap64 (x9 + 1)))) else (some false))) else (none)) else (none)) else (some true)
def impl_of.f (k : Nat) (l0 : List ByteArray) (l1 : List ByteArray) : Option (Bool) := impl_of.l0 k l0 l1 l0 (l0.length : Int) 0
set_option maxHeartbeats 8000000 in
set_option maxRecDepth 100000 in
theorem impl_of.calls (k : Nat) (A0 : Option Addr) (c0 : Nat) (l0 : List ByteArray) (A1 : Option Addr) (c1 : Nat) (l1 : List ByteArray) (r : Bool) (w : World) (hr0 : Kd.C Kd.string w A0 l0.length l0) (hc0 : l0.length ≤ c0) (hr1 : Kd.C Kd.string w A1 l1.length l1) (hc1 : l1.length ≤ c1) (h : impl_of.f k l0 l1 = some r) :
  Calls Try.prog 74 #[.slice A0 l0.length c0, .slice A1 l1.length c1] w fun e w' => e = .returned (.bool r) ∧ Drawn0 w w' := by
 have HR0 := Aside0.mk hr0
 have HC0 := Aside0.mk hc0
 clear hr0 hc0
 have HR1 := Aside0.mk hr1
 have HC1 := Aside0.mk hc1
 clear hr1 hc1
 have H : (impl_of.l0 k l0 l1 l0 (l0.length : Int) 0) = some r := h
 clear h
 have H' := Aside0.mk H
 clear H
 go_enter Try.func74, Try.ntmps74
 go_wp2
 go_loopg [9] k (fun kq v9 w' => ∃ (x9_1 : Int), v9 = .int .i64 x9_1 ∧ Aside0 (impl_of.l0 kq l0 l1 l0 (l0.length : Int) x9_1 = some r) ∧ Aside0 (kq ≤ k) ∧ Drawn0 w w')
 case atStart => exact ⟨(0), (pY51), H', ⟨Nat.le_refl _⟩, pY49⟩
 case round =>
  clear H'
  try clear c1
  try clear p2
  obtain ⟨x9_1, rfl, HA, HK1, ⟨m1, rfl⟩⟩ := hrel
  cases gk with
  | zero => exact absurd HA.out (by simp [impl_of.l0])
  | succ k1 =>
   have H := HA.out
   clear HA
   simp only [impl_of.l0] at H
   by_cases c3 : x9_1 < (l0.length : Int)
   ·rw [if_pos c3] at H
    have c3b0 : decide (x9_1 < (l0.length : Int)) = true := decide_eq_true c3
    clear c3
    by_cases c4 : 0 ≤ x9_1
    ·rw [if_pos c4] at H
     have c4b0 : decide (0 ≤ x9_1) = true := decide_eq_true c4
     clear c4
     by_cases c5 : x9_1 < (l0.length : Int)
     ·rw [if_pos c5] at H
      have c5b0 : decide (x9_1 < (l0.length : Int)) = true := decide_eq_true c5
      clear c5
      replace H := Option.bind_eq_some_iff.mp H
      obtain ⟨t102, A60, H⟩ := H
      replace H : (if t102 = true then (if x9_1 > 0 then (if 0 ≤ (wrap64 (x9_1 - 1)) then (if (wrap64 (x9_1 - 1)) < (l0.length : Int) then (if ((Op.bytesLess ((rdOf ByteArray.empty l0 (wrap64 (x9_1 - 1))).toList) ((rdOf ByteArray.empty l0 x9_1).toList)) = true) then (impl_of.l0 k1 l0 l1 l0 (l0.length : Int) (wrap64 (x9_1 + 1))) else (some false)) else (none)) else (none)) else (impl_of.l0 k1 l0 l1 l0 (l0.length : Int) (wrap64 (x9_1 + 1)))) else (some false)) = some r := H
      have A6 := Aside0.mk A60
      clear A60
      by_cases c7 : t102 = true
      ·subst c7
       have H1 : (if x9_1 > 0 then (if 0 ≤ (wrap64 (x9_1 - 1)) then (if (wrap64 (x9_1 - 1)) < (l0.length : Int) then (if ((Op.bytesLess ((rdOf ByteArray.empty l0 (wrap64 (x9_1 - 1))).toList) ((rdOf ByteArray.empty l0 x9_1).toList)) = true) then (impl_of.l0 k1 l0 l1 l0 (l0.length : Int) (wrap64 (x9_1 + 1))) else (some false)) else (none)) else (none)) else (impl_of.l0 k1 l0 l1 l0 (l0.length : Int) (wrap64 (x9_1 + 1)))) = some r := by rw [if_pos rfl] at H; exact H
       clear H
       have H := H1
       clear H1
       by_cases c8 : x9_1 > 0
       ·rw [if_pos c8] at H
        have c8b0 : decide (0 < x9_1) = true := decide_eq_true c8
        clear c8
        obtain ⟨ji9, hji9⟩ : ∃ j_ : Int, (wrap64 (x9_1 - 1)) = j_ := ⟨_, rfl⟩
        replace H : (if 0 ≤ (ji9) then (if (ji9) < (l0.length : Int) then (if ((Op.bytesLess ((rdOf ByteArray.empty l0 (ji9)).toList) ((rdOf ByteArray.empty l0 x9_1).toList)) = true) then (impl_of.l0 k1 l0 l1 l0 (l0.length : Int) (wrap64 (x9_1 + 1))) else (some false)) else (none)) else (none)) = some r := by first | (rw [hji9] at H; exact H) | (simp only [hji9] at H ⊢; exact H)
        (try rw [hji9] at A6)
        have hji9w : (IntKind.i64.wrap (x9_1 - 1)) = ji9 := (i64_w _).trans hji9
        by_cases c10 : 0 ≤ (ji9)
        ·rw [if_pos c10] at H
         have c10b0 : decide (0 ≤ (ji9)) = true := decide_eq_true c10
         clear c10
         by_cases c11 : (ji9) < (l0.length : Int)
         ·rw [if_pos c11] at H
          have c11b0 : decide ((ji9) < (l0.length : Int)) = true := decide_eq_true c11
          clear c11
          by_cases c12 : ((Op.bytesLess ((rdOf ByteArray.empty l0 (ji9)).toList) ((rdOf ByteArray.empty l0 x9_1).toList)) = true)
          ·rw [if_pos c12] at H
           have c12b0 : (Op.bytesLess ((rdOf ByteArray.empty l0 (ji9)).toList) ((rdOf ByteArray.empty l0 x9_1).toList)) = true := c12
           clear c12
           have H' := Aside0.mk H
           clear H
           have p101 : 0 ≤ (x9_1 : Int) := of_decide_eq_true (pY50)
           have q101 : x9_1 < (l0.length : Int) := of_decide_eq_true (pY50)
           obtain ⟨ad101, e101, hx101_0⟩ := Kd.at_string HR0.1 x9_1 p101 q101
           cases e101
           replace p101 := eq_true p101
           replace q101 := eq_true q101
           go_wp2_with (first | ((with_reducible refine gate_callee (f := 81) rfl ?_); refine goesL_ (some 16) rfl rfl Try.func81 (by kernel_rfl) rfl #[.slice A1 l1.length c1, .string (rdOf ByteArray.empty l0 x9_1)] rfl (pY36) ?_; (with_reducible refine (slices_Contains_string_string.calls k1 _ _ l1 (rdOf ByteArray.empty l0 x9_1) true _ ?side1 ?side2 A6.out).mono ?_); (case side1 => exact pC HR1.1); (case side2 => exact HC1.1); rintro e w' ⟨rfl, ⟨nd, rfl⟩⟩; refine ⟨_, rfl, ?_⟩; have p103 : 0 ≤ ((ji9) : Int) := of_decide_eq_true (pY50); have q103 : (ji9) < (l0.length : Int) := of_decide_eq_true (pY50); obtain ⟨ad103, e103, hx103_0⟩ := Kd.at_string HR0.1 (ji9) p103 q103; obtain rfl : ad101 = ad103 := (by injection e103); replace p103 := eq_true p103; replace q103 := eq_true q103))
           go_roundg k1
           case measure => have := HK1.out; omega
           case rel => exact ⟨(wrap64 (x9_1 + 1)), (pY51), H', ⟨by have := HK1.out; omega⟩, pY49⟩
          ·rw [if_neg c12] at H
           have c12b0 : (Op.bytesLess ((rdOf ByteArray.empty l0 (ji9)).toList) ((rdOf ByteArray.empty l0 x9_1).toList)) = false := by simpa using c12
           clear c12
           obtain rfl := Option.some.inj H
           have p101 : 0 ≤ (x9_1 : Int) := of_decide_eq_true (pY50)
           have q101 : x9_1 < (l0.length : Int) := of_decide_eq_true (pY50)
           obtain ⟨ad101, e101, hx101_0⟩ := Kd.at_string HR0.1 x9_1 p101 q101
           cases e101
           replace p101 := eq_true p101
           replace q101 := eq_true q101
           go_wp2_with (first | ((with_reducible refine gate_callee (f := 81) rfl ?_); refine goesL_ (some 16) rfl rfl Try.func81 (by kernel_rfl) rfl #[.slice A1 l1.length c1, .string (rdOf ByteArray.empty l0 x9_1)] rfl (pY36) ?_; (with_reducible refine (slices_Contains_string_string.calls k1 _ _ l1 (rdOf ByteArray.empty l0 x9_1) true _ ?side1 ?side2 A6.out).mono ?_); (case side1 => exact pC HR1.1); (case side2 => exact HC1.1); rintro e w' ⟨rfl, ⟨nd, rfl⟩⟩; refine ⟨_, rfl, ?_⟩; have p103 : 0 ≤ ((ji9) : Int) := of_decide_eq_true (pY50); have q103 : (ji9) < (l0.length : Int) := of_decide_eq_true (pY50); obtain ⟨ad103, e103, hx103_0⟩ := Kd.at_string HR0.1 (ji9) p103 q103; obtain rfl : ad101 = ad103 := (by injection e103); replace p103 := eq_true p103; replace q103 := eq_true q103))
           go_ret
           exact ⟨by first | rfl | (simp; done) | (simp only [← hji9] <;> (first | rfl | simp)) | (simp [*]; done), pY49⟩
         ·rw [if_neg c11] at H
          exact absurd H (by simp)
        ·rw [if_neg c10] at H
         exact absurd H (by simp)
       ·rw [if_neg c8] at H
        have c8b0 : decide (0 < x9_1) = false := decide_eq_false c8
        clear c8
        have H' := Aside0.mk H
        clear H
        have p101 : 0 ≤ (x9_1 : Int) := of_decide_eq_true (pY50)
        have q101 : x9_1 < (l0.length : Int) := of_decide_eq_true (pY50)
        obtain ⟨ad101, e101, hx101_0⟩ := Kd.at_string HR0.1 x9_1 p101 q101
        cases e101
        replace p101 := eq_true p101
        replace q101 := eq_true q101
        go_wp2_with (first | ((with_reducible refine gate_callee (f := 81) rfl ?_); refine goesL_ (some 16) rfl rfl Try.func81 (by kernel_rfl) rfl #[.slice A1 l1.length c1, .string (rdOf ByteArray.empty l0 x9_1)] rfl (pY36) ?_; (with_reducible refine (slices_Contains_string_string.calls k1 _ _ l1 (rdOf ByteArray.empty l0 x9_1) true _ ?side1 ?side2 A6.out).mono ?_); (case side1 => exact pC HR1.1); (case side2 => exact HC1.1); rintro e w' ⟨rfl, ⟨nd, rfl⟩⟩; refine ⟨_, rfl, ?_⟩))
        go_roundg k1
        case measure => have := HK1.out; omega
        case rel => exact ⟨(wrap64 (x9_1 + 1)), (pY51), H', ⟨by have := HK1.out; omega⟩, pY49⟩
      ·replace c7 := Bool.eq_false_iff.mpr c7
       subst c7
       have H1 : (some false) = some r := by rw [if_neg (show ¬ (false = true) by decide)] at H; exact H
       clear H
       have H := H1
       clear H1
       obtain rfl := Option.some.inj H
       have p101 : 0 ≤ (x9_1 : Int) := of_decide_eq_true (pY50)
       have q101 : x9_1 < (l0.length : Int) := of_decide_eq_true (pY50)
       obtain ⟨ad101, e101, hx101_0⟩ := Kd.at_string HR0.1 x9_1 p101 q101
       cases e101
       replace p101 := eq_true p101
       replace q101 := eq_true q101
       go_wp2_with (first | ((with_reducible refine gate_callee (f := 81) rfl ?_); refine goesL_ (some 16) rfl rfl Try.func81 (by kernel_rfl) rfl #[.slice A1 l1.length c1, .string (rdOf ByteArray.empty l0 x9_1)] rfl (pY36) ?_; (with_reducible refine (slices_Contains_string_string.calls k1 _ _ l1 (rdOf ByteArray.empty l0 x9_1) false _ ?side1 ?side2 A6.out).mono ?_); (case side1 => exact pC HR1.1); (case side2 => exact HC1.1); rintro e w' ⟨rfl, ⟨nd, rfl⟩⟩; refine ⟨_, rfl, ?_⟩))
       go_ret
       exact ⟨by first | rfl | (simp; done) | (simp [*]; done), pY49⟩
     ·rw [if_neg c5] at H
      exact absurd H (by simp)
    ·rw [if_neg c4] at H
     exact absurd H (by simp)
   ·rw [if_neg c3] at H
    have c3b0 : decide (x9_1 < (l0.length : Int)) = false := decide_eq_false c3
    clear c3
    obtain rfl := Option.some.inj H
    go_wp2
    go_ret
    exact ⟨by first | rfl | (simp; done) | (simp [*]; done), pY49⟩
end Go.Proofs.Ytaofjgnhapnndaa.Q
namespace Go.Proofs.Ytaofjgnhapnndaa.Q
open Go.RowKit Go.Proofs.YtaofjgnhapnndaaW.PrintWords Go.Proofs.YtaofjgnhapnndaaW.PrintLast Go.Proofs.YtaofjgnhapnndaaW.PrintMore
set_option linter.unusedVariables false
set_option linter.unusedSimpArgs false
def hasS (l : List ByteArray) (s : ByteArray) : Bool := l.any fun x => s.toList == x.toList
theorem wrap_succ {i n : Nat} (h : i < n) (hn : n ≤ 9223372036854775807) : wrap64 ((i : Int) + 1) = ((i + 1 : Nat) : Int) := by
  unfold wrap64; omega
theorem rdOf_nat {α : Type} (d : α) (l : List α) (i : Nat) (h : i < l.length) : rdOf d l (i : Int) = l[i] := by
  unfold rdOf; simp [List.getD_eq_getElem?_getD, h]
theorem index_go (l : List ByteArray) (s : ByteArray) (hl : l.length ≤ 9223372036854775807) : ∀ (d k i : Nat), l.length - i = d → i ≤ l.length → d < k →
    ∃ r, slices_Index_string_string.l0 k l s (l.length : Int) (i : Int) = some r ∧ decide (r ≥ 0) = (l.drop i).any fun x => s.toList == x.toList := by
  intro d
  induction d with
  | zero =>
    intro k i hd hi hk
    obtain ⟨k, rfl⟩ : ∃ m, k = m + 1 := ⟨k - 1, by omega⟩
    have : i = l.length := by omega
    subst this
    refine ⟨-1, ?_, by simp⟩
    simp only [slices_Index_string_string.l0]
    rw [if_neg (by omega)]
  | succ d ih =>
    intro k i hd hi hk
    obtain ⟨k, rfl⟩ : ∃ m, k = m + 1 := ⟨k - 1, by omega⟩
    have hlt : i < l.length := by omega
    rw [List.drop_eq_getElem_cons hlt]
    simp only [slices_Index_string_string.l0, List.any_cons]
    rw [if_pos (by omega), if_pos (by omega), if_pos (by omega), rdOf_nat _ _ _ hlt]
    by_cases e : s.toList = l[i].toList
    · exact ⟨i, by rw [if_pos e], by simp [e]⟩
    · obtain ⟨r, hr, h⟩ := ih k (i + 1) (by omega) (by omega) (by omega)
      refine ⟨r, ?_, by rw [h]; simp [e]⟩
      rw [if_neg e, wrap_succ hlt hl]
      exact hr
theorem contains_at (l : List ByteArray) (s : ByteArray) (hl : l.length ≤ 9223372036854775807) : slices_Contains_string_string.f (l.length + 1) l s = some (hasS l s) := by
  obtain ⟨r, hr, h⟩ := index_go l s hl l.length (l.length + 1) 0 (by omega) (by omega) (by omega)
  unfold slices_Contains_string_string.f slices_Index_string_string.f
  rw [show slices_Index_string_string.l0 (l.length + 1) l s (l.length : Int) 0 = some r from hr]
  simp only [Option.bind_some]
  rw [h]
  rfl
end Go.Proofs.Ytaofjgnhapnndaa.Q
