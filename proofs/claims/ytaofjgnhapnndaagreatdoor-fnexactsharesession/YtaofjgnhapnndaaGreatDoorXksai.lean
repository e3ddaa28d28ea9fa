/- Texts that the row needs: words on memory and rows, the contracts of the functions it reaches, and the plain lemmas on what they compute. -/
import Derived.Shelf.GgSortFunc.SmallK
import Derived.Test.YtaofjgnhapnndaaGreatDoorXksah
open Go.Proofs.YtaofjgnhapnndaaGreatDoorFks
namespace Go.Proofs.YtaofjgnhapnndaaGreatDoor.Q
open Go.RowKit Go.Proofs.YtaofjgnhapnndaaGreatDoorW.PrintWords Go.Proofs.YtaofjgnhapnndaaGreatDoorW.PrintLast Go.Proofs.YtaofjgnhapnndaaGreatDoorW.PrintMore
set_option linter.unusedVariables false
set_option linter.unusedSimpArgs false
open Go.Shelf Go.Lib Go.Sort
instance : Inhabited EC := ⟨(ByteArray.empty, (none, 0, 0), (none, 0, 0))⟩
def ltE (a b : EC) : Bool := Op.bytesLess a.1.toList b.1.toList
theorem YQ (a b : EC) : ltE a b = decide (a.1.toList < b.1.toList) := bytesLess_eq _ _
theorem Pq : SWO ltE where
  irrefl := fun x => by rw [YQ]; exact decide_eq_false (List.lt_irrefl _)
  trans := fun x y z h1 h2 => by
    rw [YQ, decide_eq_true_eq] at *
    exact List.lt_trans h1 h2
  ntrans := fun x y z h1 h2 => by
    rw [YQ, decide_eq_false_iff_not] at *
    exact fun h => by
      have a1 := List.not_lt.1 h1
      have a2 := List.not_lt.1 h2
      exact List.not_lt.2 (List.le_trans a2 a1) h
noncomputable def Bf : TypeInfo := (Tryz.prog.info? 29).get (by kernel_rfl)
noncomputable def DU : TypeInfo := (Tryz.prog.info? 66).get (by kernel_rfl)
theorem Oa (n : Nat) (h2 : 2 ≤ n) : Lib.swapperK n DU 25 = 9 := by
 have a : DU.hasPointers = true := by kernel_rfl
 have b : DU.bytes = 64 := by kernel_rfl
 have c : (n == 0) = false := by simp; omega
 have d : (n == 1) = false := by simp; omega
 simp [Lib.swapperK, a, b, c, d]
set_option maxHeartbeats 2000000 in
theorem Y9 (g cap gb n : Nat) (v0 : Value) (W : World) (G : Nat → ByteArray) (hs : W.cell? ⟨gb, 1, none⟩ = some (.slice (some ⟨g, 0, none⟩) n cap)) (MN : W.cell? ⟨gb, 0, none⟩ = some v0)
  (hc : ∀ t, t < n → W.cell? ⟨g, 0 + t * 3, none⟩ = some (.string (G t))) (i j : Nat) (hi : i < n) (hj : j < n) (hn : n < 4611686018427387904) :
  Calls Tryz.prog 74 #[.int .i64 i, .int .i64 j, .pointer (some ⟨gb, 0, none⟩)] W fun e w' => e = .returned (.bool (Op.bytesLess (G i).toList (G j).toList)) ∧ ∃ q, w' = W.drewN q := by
 have hu31 := Tryz.underlying31
 have hu56 := Tryz.underlying66
 have ci := hc i hi
 have cj := hc j hj
 rw [Nat.zero_add] at ci cj
 clear hc
 go_enter Tryz.func74, Tryz.ntmps74
 go_wp2
 go_quiet (fail)
 go_wp2
 go_ret
 exact ⟨rfl, nq, rfl⟩
theorem Iq : ∀ L : List EC, (L.map encE).flatten.length = L.length * 3
  | [] => rfl
  | a :: l => by rw [List.map_cons, List.flatten_cons, List.length_append, Iq l, List.length_cons, qQ]; omega
theorem Ip : ∀ (L : List EC) (q r : Nat) (hq : q < L.length), r < 3 → ((L.map encE).flatten)[q * 3 + r]? = (encE L[q])[r]?
  | a :: l, 0, r, hq, hr => by
    rw [List.map_cons, List.flatten_cons, Nat.zero_mul, Nat.zero_add, List.getElem?_append_left (by rw [qQ]; exact hr)]; rfl
  | a :: l, q + 1, r, hq, hr => by
    rw [List.map_cons, List.flatten_cons, List.getElem?_append_right (by rw [qQ]; omega), qQ, show (q + 1) * 3 + r - 3 = q * 3 + r by omega]
    exact Ip l q r (by simpa using hq) hr
theorem Be (L : List EC) : (flatK encE 3 L.toArray).toList = (L.map encE).flatten := by
 refine List.ext_getElem? fun j => ?_
 by_cases hj : j < L.length * 3
 ·have h1 : j < (flatK encE 3 L.toArray).size := by simpa using hj
  have e1 := get_flatK encE 3 L.toArray j (by simpa using hj)
  rw [getElem!_pos _ j h1] at e1
  rw [Array.getElem?_toList, Array.getElem?_eq_getElem h1, e1]
  have hq : j / 3 < L.length := by omega
  have e2 := Ip L (j / 3) (j % 3) hq (by omega)
  rw [show j / 3 * 3 + j % 3 = j by omega] at e2
  rw [e2, getElem!_pos L.toArray (j / 3) (by simpa using hq), List.getElem_toArray, getElem!_pos (encE L[j / 3]) (j % 3) (by rw [qQ]; omega), List.getElem?_eq_getElem (by rw [qQ]; omega)]
 rw [List.getElem?_eq_none (by rw [Array.length_toList, size_flatK]; simpa using hj), List.getElem?_eq_none (by rw [Iq]; omega)]
theorem Q0 (F cur : Array Value) (h : F.size ≤ cur.size) : (putCells id 0 F cur).toList.take F.size = F.toList ∧ (putCells id 0 F cur).size = cur.size := by
 refine ⟨List.ext_getElem? fun j => ?_, by simp [putCells]⟩
 by_cases hj : j < F.size
 ·rw [List.getElem?_take, if_pos hj, Array.getElem?_toList, Array.getElem?_toList]
  simp only [putCells, Array.getElem?_mapIdx]
  rw [Array.getElem?_eq_getElem (show j < cur.size by omega), Option.map_some, if_pos ⟨Nat.zero_le _, by omega⟩, Nat.sub_zero, Array.getElem?_eq_getElem hj, getElem!_pos F j hj]
  rfl
 rw [List.getElem?_take, if_neg hj, List.getElem?_eq_none (by rw [Array.length_toList]; omega)]
theorem WZ {w : World} {g : Nat} {t : TypeId} {cur F : Array Value} (h : w.heap[g]? = some (.cells cur t (0, 0))) : (putRow id w g 0 F).heap[g]? = some (.cells (putCells id 0 F cur) t (0, 0)) := by
 simp [putRow, mapBlock, Array.getElem?_modify, h, onCells]
theorem yP {w : World} {g k : Nat} {F : Array Value} (h : k ≠ g) : (putRow id w g 0 F).heap[k]? = w.heap[k]? := by
 simp [putRow, mapBlock, Array.getElem?_modify, Ne.symm h]
end Go.Proofs.YtaofjgnhapnndaaGreatDoor.Q
