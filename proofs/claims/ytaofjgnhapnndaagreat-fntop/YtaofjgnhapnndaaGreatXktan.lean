/- Texts that the row needs: words on memory and rows, the contracts of the functions it reaches, and the plain lemmas on what they compute. -/
import Derived.Shelf.Sort.Plain
import Derived.Shelf.Slices.In.SortNone2
import Derived.Test.YtaofjgnhapnndaaGreatXktam
set_option maxHeartbeats 8000000
set_option maxRecDepth 100000
open Go.Proofs.YtaofjgnhapnndaaGreatFkt
namespace Go.Proofs.YtaofjgnhapnndaaGreat.Q
open Go.RowKit Go.Proofs.YtaofjgnhapnndaaGreatW.PrintWords Go.Proofs.YtaofjgnhapnndaaGreatW.PrintLast Go.Proofs.YtaofjgnhapnndaaGreatW.PrintMore
set_option linter.unusedVariables false
set_option linter.unusedSimpArgs false
open Go.Shelf Go.Lib Go.Sort
def gU : Go.Shelf.Ren :=
{
  f := fun x =>
    match x with
    | 192 => 38
    | 190 => 68
    | 125 => 62
    | 258 => 91
    | 128 => 81
    | 129 => 82
    | 302 => 98
    | 303 => 99
    | 304 => 100
    | 305 => 101
    | 306 => 102
    | 307 => 103
    | 308 => 104
    | 309 => 105
    | 310 => 106
    | 333 => 109
    | 329 => 110
    | 330 => 111
    | 334 => 112
    | 335 => 113
    | 336 => 114
    | 344 => 115
    | n => n,
  t := fun x =>
    match x with
    | 31 => 23
    | 0 => 0
    | 9 => 9
    | 3 => 3
    | 46 => 83
    | 51 => 95
    | 53 => 97
    | 4 => 4
    | 183 => 116
    | 182 => 115
    | 131 => 104
    | 5 => 5
    | 218 => 125
    | 222 => 112
    | 228 => 128
    | 229 => 123
    | n => n,
  g := fun x => x }
theorem Ce : Go.Proofs.Lays.n192 Tryz.prog gU :=
{ mixed := Eq.refl true, f125 := Eq.trans Tryz.func62 (congrArg some (Eq.refl (Body.n125 gU))),
  f128 := Eq.trans Tryz.func81 (congrArg some (Eq.refl (Body.n128 gU))),
  f129 := Eq.trans Tryz.func82 (congrArg some (Eq.refl (Body.n129 gU))),
  f190 := Eq.trans Tryz.func68 (congrArg some (Eq.refl (Body.n190 gU))),
  f192 := Eq.trans Tryz.func38 (congrArg some (Eq.refl (Body.n192 gU))),
  f258 := Eq.trans Tryz.func91 (congrArg some (Eq.refl (Body.n258 gU))),
  f302 := Eq.trans Tryz.func98 (congrArg some (Eq.refl (Body.n302 gU))),
  f303 := Eq.trans Tryz.func99 (congrArg some (Eq.refl (Body.n303 gU))),
  f304 := Eq.trans Tryz.func100 (congrArg some (Eq.refl (Body.n304 gU))),
  f305 := Eq.trans Tryz.func101 (congrArg some (Eq.refl (Body.n305 gU))),
  f306 := Eq.trans Tryz.func102 (congrArg some (Eq.refl (Body.n306 gU))),
  f307 := Eq.trans Tryz.func103 (congrArg some (Eq.refl (Body.n307 gU))),
  f308 := Eq.trans Tryz.func104 (congrArg some (Eq.refl (Body.n308 gU))),
  f309 := Eq.trans Tryz.func105 (congrArg some (Eq.refl (Body.n309 gU))),
  f310 := Eq.trans Tryz.func106 (congrArg some (Eq.refl (Body.n310 gU))),
  f329 := Eq.trans Tryz.func110 (congrArg some (Eq.refl (Body.n329 gU))),
  f330 := Eq.trans Tryz.func111 (congrArg some (Eq.refl (Body.n330 gU))),
  f333 := Eq.trans Tryz.func109 (congrArg some (Eq.refl (Body.n333 gU))),
  f334 := Eq.trans Tryz.func112 (congrArg some (Eq.refl (Body.n334 gU))),
  f335 := Eq.trans Tryz.func113 (congrArg some (Eq.refl (Body.n335 gU))),
  f336 := Eq.trans Tryz.func114 (congrArg some (Eq.refl (Body.n336 gU))),
  f344 := Eq.trans Tryz.func115 (congrArg some (Eq.refl (Body.n344 gU))), t0 := Tryz.underlying0,
  a0 := Tryz.isAgg0, z0 := Tryz.sizeOf0, v0 := Tryz.zeroValue0, t3 := Tryz.underlying3, a3 := Tryz.isAgg3,
  z3 := Tryz.sizeOf3, v3 := Tryz.zeroValue3, t4 := Tryz.underlying4, a4 := Tryz.isAgg4, z4 := Tryz.sizeOf4,
  v4 := Tryz.zeroValue4, t5 := Tryz.underlying5, a5 := Tryz.isAgg5, z5 := Tryz.sizeOf5, v5 := Tryz.zeroValue5,
  t9 := Tryz.underlying9, a9 := Tryz.isAgg9, z9 := Tryz.sizeOf9, v9 := Tryz.zeroValue9, t31 := Tryz.underlying23,
  a31 := Tryz.isAgg23, z31 := Tryz.sizeOf23, v31 := Tryz.zeroValue23, t46 := Tryz.underlying83, a46 := Tryz.isAgg83,
  z46 := Tryz.sizeOf83, v46 := Tryz.zeroValue83, t51 := Tryz.underlying95, a51 := Tryz.isAgg95, z51 := Tryz.sizeOf95,
  v51 := Tryz.zeroValue95, t53 := Tryz.underlying97, a53 := Tryz.isAgg97, z53 := Tryz.sizeOf97, v53 := Tryz.zeroValue97,
  t131 := Tryz.underlying104, a131 := Tryz.isAgg104, z131 := Tryz.sizeOf104, v131 := Tryz.zeroValue104,
  t182 := Tryz.underlying115, a182 := Tryz.isAgg115, z182 := Tryz.sizeOf115, v182 := Tryz.zeroValue115,
  t183 := Tryz.underlying116, a183 := Tryz.isAgg116, z183 := Tryz.sizeOf116, v183 := Tryz.zeroValue116,
  t218 := Tryz.underlying125, a218 := Tryz.isAgg125, z218 := Tryz.sizeOf125, v218 := Tryz.zeroValue125,
  t222 := Tryz.underlying112, a222 := Tryz.isAgg112, z222 := Tryz.sizeOf112, v222 := Tryz.zeroValue112,
  t228 := Tryz.underlying128, a228 := Tryz.isAgg128, z228 := Tryz.sizeOf128, v228 := Tryz.zeroValue128,
  t229 := Tryz.underlying123, a229 := Tryz.isAgg123, z229 := Tryz.sizeOf123, v229 := Tryz.zeroValue123 }
def bl (s : ByteArray) : List UInt8 := s.data.toList
def mkB (l : List UInt8) : ByteArray := ⟨l.toArray⟩
theorem TP (s : ByteArray) : mkB (bl s) = s := by cases s; simp [mkB, bl]
theorem Q4 (l : List UInt8) : bl (mkB l) = l := by simp [mkB, bl]
def BG (xs : List ByteArray) : List ByteArray := ((xs.map bl).mergeSort fun x y => decide (x ≤ y)).map mkB
def tQ (xs : List ByteArray) : List ByteArray := (Lib.compact (xs.map bl)).map mkB
theorem Tq (xs : List ByteArray) : (BG xs).map bl = (xs.map bl).mergeSort fun x y => decide (x ≤ y) := by
 unfold BG; rw [List.map_map, show bl ∘ mkB = id from funext Q4, List.map_id]
theorem PI (xs : List ByteArray) : (BG xs).length = xs.length := by unfold BG; rw [List.length_map, List.length_mergeSort, List.length_map]
theorem Ey (s : ByteArray) : encStr (bl s) = .string s := by
 show Value.string _ = _
 congr 1
theorem VG {w : World} {base c : Nat} {P : Nat → Prop} {A : Option Addr} {xs : List ByteArray} (h : Kd.R Kd.string 9 w base P (.slice A xs.length c) xs) :
  (A = none ∧ c = 0 ∧ xs = []) ∨ ∃ (g : Nat) (cur : Array Value), A = some ⟨g, 0, none⟩ ∧ P g ∧ base ≤ g ∧ w.heap[g]? = some (.cells cur 9 (0, 0)) ∧ cur.size = c ∧ xs.length ≤ c ∧ c ≤ maxLen ∧ cur.toList.take xs.length = xs.map Value.string := by
 obtain ⟨h0, inner, ho, hr⟩ := h
 obtain ⟨hil, ho⟩ := ho
 rcases ho with ⟨hv, ho⟩ | ⟨gb, cap, cur, hv, hbase, hheap, hncap, hcapm, hcur, htake⟩
 ·injection hv with ha _ hc
  exact .inl ⟨ha, hc, List.length_eq_zero_iff.1 ho⟩
 injection hv with ha _ hc
 subst ha; subst hc
 refine .inr ⟨gb, cur, rfl, h0 gb rfl, hbase, hheap, by rw [hcur]; exact Nat.mul_one _, hncap, hcapm, ?_⟩
 have ht : cur.toList.take xs.length = inner := by rw [← htake]; congr 1; exact (Nat.mul_one _).symm
 rw [ht]
 have hil2 : inner.length = xs.length := by rw [hil]; exact Nat.mul_one _
 refine List.ext_getElem (by rw [List.length_map]; exact hil2) fun j h1 h2 => ?_
 have hM := hr.2 j (xs[j]'(by omega)) (List.getElem?_eq_getElem (by omega))
 have hM2 : (inner.drop (j * 1)).take 1 = [Value.string (xs[j]'(by omega))] := hM
 rw [Nat.mul_one, List.drop_eq_getElem_cons h1, List.take_succ_cons, List.take_zero] at hM2
 rw [List.getElem_map]
 exact (List.cons.inj hM2).1
theorem VF {w : World} {base g c : Nat} {P : Nat → Prop} {ys : List ByteArray} {cs : Array Value} (hP : P g) (hb : base ≤ g) (hh : w.heap[g]? = some (.cells cs 9 (0, 0))) (hs : cs.size = c) (hn : ys.length ≤ c) (hm : c ≤ maxLen) (ht : cs.toList.take ys.length = ys.map Value.string) :
  Kd.R Kd.string 9 w base P (.slice (some ⟨g, 0, none⟩) ys.length c) ys := by
 refine ⟨fun k hk => by (have e : g = k := by simpa [Value.ownBlock] using hk); subst e; exact hP, ys.map Value.string, ⟨?_, ?_⟩, ?_, ?_⟩
 ·rw [List.length_map]; show _ = _ * 1; omega
 ·refine .inr ⟨g, c, cs, rfl, hb, hh, hn, hm, ?_, ?_⟩
  ·show _ = _ * 1; omega
  show List.take (ys.length * 1) _ = _; rw [Nat.mul_one]; exact ht
 ·rw [List.length_map]; show _ = _ * 1; omega
 intro j p hj
 have hjl : j < ys.length := (List.getElem?_eq_some_iff.1 hj).1
 show ((ys.map Value.string).drop (j * 1)).take 1 = [Value.string p]
 rw [Nat.mul_one, List.drop_eq_getElem_cons (by rw [List.length_map]; exact hjl), List.take_succ_cons, List.take_zero, List.getElem_map]
 rw [List.getElem?_eq_getElem hjl] at hj
 rw [Option.some.inj hj]
theorem VQ {w : World} {g : Nat} {cur : Array Value} {xs : List ByteArray} (hh : w.heap[g]? = some (.cells cur 9 (0, 0))) (ht : cur.toList.take xs.length = xs.map Value.string) : Holds encStr w g 0 (xs.map bl).toArray := by
 intro j hj
 have hj2 : j < xs.length := by simpa using hj
 refine ⟨?_, gF hh _⟩
 rw [Nat.zero_add, bP hh j, getElem!_pos _ j hj]
 have e : (cur.toList.take xs.length)[j]? = (xs.map Value.string)[j]? := by rw [ht]
 rw [List.getElem?_take, if_pos hj2, Array.getElem?_toList, List.getElem?_map, List.getElem?_eq_getElem hj2] at e
 rw [e]
 simp [Ey]
theorem Mq {w : World} {g : Nat} {t : TypeId} {cur : Array Value} {F : Array (List UInt8)} (h : w.heap[g]? = some (.cells cur t (0, 0))) : (putRow encStr w g 0 F).heap[g]? = some (.cells (putCells encStr 0 F cur) t (0, 0)) := by
 simp [putRow, mapBlock, Array.getElem?_modify, h, onCells]
theorem Mo {w : World} {g k : Nat} {F : Array (List UInt8)} (h : k ≠ g) : (putRow encStr w g 0 F).heap[k]? = w.heap[k]? := by
 simp [putRow, mapBlock, Array.getElem?_modify, Ne.symm h]
theorem Jy {w : World} {g : Nat} {cur : Array Value} (d : List (List UInt8)) (n : Nat) (os : Array Obj) (hh : w.heap[g]? = some (.cells cur 9 (0, 0))) (hd : d.length ≤ cur.size) :
  ∃ cs : Array Value, (Sort.grow (putRow encStr (Sort.ahead w n) g 0 d.toArray) os).heap[g]? = some (.cells cs 9 (0, 0)) ∧ cs.size = cur.size ∧ cs.toList.take d.length = d.map encStr := by
 have hg : g < w.heap.size := fO hh
 refine ⟨putCells encStr 0 d.toArray cur, ?_, ?_, ?_⟩
 ·show (_ ++ os)[g]? = _
  rw [Array.getElem?_append, if_pos (by rw [size_putRow]; exact hg)]
  exact Mq (w := Sort.ahead w n) hh
 ·unfold putCells; simp
 refine List.ext_getElem? fun j => ?_
 by_cases hj : j < d.length
 ·rw [List.getElem?_take, if_pos hj, Array.getElem?_toList, List.getElem?_map, List.getElem?_eq_getElem hj]
  have hjc : j < cur.size := by omega
  unfold putCells
  rw [Array.getElem?_mapIdx, Array.getElem?_eq_getElem hjc]
  simp [hj]
 rw [List.getElem?_eq_none (by rw [List.length_take]; omega), List.getElem?_eq_none (by rw [List.length_map]; omega)]
theorem TZ (w : World) (g n : Nat) (d : Array (List UInt8)) (os : Array Obj) : Kept w (Sort.grow (putRow encStr (Sort.ahead w n) g 0 d) os) (fun k => k = g) := by
 refine ⟨?_, fun k hk hne => ?_⟩
 ·show _ ≤ (_ ++ os).size; rw [Array.size_append, size_putRow]; exact Nat.le_add_right _ _
 show (_ ++ os)[k]? = _
 rw [Array.getElem?_append, if_pos (by rw [size_putRow]; exact hk)]
 exact Mo (w := Sort.ahead w n) hne
theorem WB {w0 w : World} {g : Nat} (n : Nat) (d : Array (List UInt8)) (os : Array Obj) (hB : Go.RowKit.Below w0.heap.size w0 w) (hb : w0.heap.size ≤ g) : Go.RowKit.Below w0.heap.size w0 (Sort.grow (putRow encStr (Sort.ahead w n) g 0 d) os) := by
 have hk := TZ w g n d os
 exact ⟨hB.os, hB.tape, hB.output, Nat.le_trans hB.size hk.1, fun k hk2 => by rw [hk.2 k (Nat.lt_of_lt_of_le hk2 hB.size) (by omega)]; exact hB.block k hk2⟩
theorem rf {w0 w : World} {c : Nat} {P : Nat → Prop} {A : Option Addr} {xs : List ByteArray} (h : Kd.R Kd.string 9 w w0.heap.size P (.slice A xs.length c) xs) (hB : Go.RowKit.Below w0.heap.size w0 w) (hl : xs.length < 4611686018427387904) :
  Calls Tryz.prog 38 #[.slice A xs.length c] w fun e w' => e = .returned (.tuple #[]) ∧ Kd.R Kd.string 9 w' w0.heap.size P (.slice A xs.length c) (BG xs) ∧ Go.RowKit.Below w0.heap.size w0 w' ∧ Kept w w' P := by
 rcases VG h with ⟨rfl, rfl, rfl⟩ | ⟨g, cur, rfl, hP, hb, hh, hs, hn, hm, ht⟩
 ·have hS := Any.sort_Strings_none Ce none 0 w
  change Calls Tryz.prog 38 _ _ _ at hS
  refine hS.mono ?_
  rintro e w' ⟨rfl, rfl⟩
  have e0 : BG [] = [] := by simp [BG]
  rw [e0]
  exact ⟨rfl, Kd.sP _ _ _ _ _, hB, Kept.refl _ _⟩
 have hS := Any.sort_Strings Ce g 0 c (xs.map bl) w (VQ hh ht) (fO hh) (by rw [List.length_map]; exact hl)
 change Calls Tryz.prog 38 _ _ _ at hS
 rw [List.length_map] at hS
 refine hS.mono ?_
 rintro e w' ⟨rfl, n, os, rfl⟩
 rw [← Tq]
 obtain ⟨cs, q1, q2, q3⟩ := Jy ((BG xs).map bl) n os hh (by rw [List.length_map, PI]; omega)
 refine ⟨rfl, ?_, WB _ _ _ hB hb, Kept.mono (TZ _ _ _ _ _) (fun k e => e ▸ hP)⟩
 have := VF (ys := BG xs) hP hb q1 (q2.trans hs) (by rw [PI]; exact hn) hm (by rw [List.length_map] at q3; rw [q3, List.map_map]; exact List.map_congr_left (fun s _ => Ey s))
 rwa [PI] at this
theorem Ra (xs : List ByteArray) : (tQ xs).map bl = Lib.compact (xs.map bl) := by
 unfold tQ; rw [List.map_map, show bl ∘ mkB = id from funext Q4, List.map_id]
theorem VL (xs : List ByteArray) : (tQ xs).length = (Lib.compact (xs.map bl)).length := by unfold tQ; rw [List.length_map]
theorem Ll {w0 w : World} {c : Nat} {P : Nat → Prop} {A : Option Addr} {xs : List ByteArray} (h : Kd.R Kd.string 9 w w0.heap.size P (.slice A xs.length c) xs) (hB : Go.RowKit.Below w0.heap.size w0 w) :
  Calls Tryz.prog 39 #[.slice A xs.length c] w fun e w' => e = .returned (.slice A (tQ xs).length c) ∧ Kd.R Kd.string 9 w' w0.heap.size P (.slice A (tQ xs).length c) (tQ xs) ∧ Go.RowKit.Below w0.heap.size w0 w' ∧ Kept w w' P := by
 have hbig : xs.length ≤ 9223372036854775807 := (Kd.bH h).2.2.2.1
 rcases VG h with ⟨rfl, rfl, rfl⟩ | ⟨g, cur, rfl, hP, hb, hh, hs, hn, hm, ht⟩
 ·have hS := Any.slices_Compact_string_empty Cb none 0 w
  change Calls Tryz.prog 39 _ _ _ at hS
  refine hS.mono ?_
  rintro e w' ⟨rfl, rfl⟩
  have e0 : tQ [] = [] := by simp [tQ, Lib.compact, Lib.compactUpTo]
  rw [e0]
  exact ⟨rfl, Kd.sP _ _ _ _ _, hB, Kept.refl _ _⟩
 have hle := Lib.compact_length_le (xs.map bl)
 rw [List.length_map, ← VL] at hle
 have hS := Any.slices_Compact_string Cb g 0 c (xs.map bl) w (VQ hh ht) (by rw [List.length_map]; exact hbig) (by rw [List.length_map]; exact hn)
 change Calls Tryz.prog 39 _ _ _ at hS
 rw [List.length_map] at hS
 refine hS.mono ?_
 rintro e w' ⟨rfl, n, rfl⟩
 rw [← VL, ← Ra]
 obtain ⟨cs, q1, q2, q3⟩ := Jy ((tQ xs).map bl ++ List.replicate (xs.length - (tQ xs).length) []) n #[] hh (by rw [List.length_append, List.length_map, List.length_replicate]; omega)
 rw [Sort.grow_empty] at q1
 have k1 := TZ w g n ((tQ xs).map bl ++ List.replicate (xs.length - (tQ xs).length) []).toArray #[]
 have k2 := WB n ((tQ xs).map bl ++ List.replicate (xs.length - (tQ xs).length) []).toArray #[] hB hb
 rw [Sort.grow_empty] at k1 k2
 refine ⟨rfl, VF (ys := tQ xs) hP hb q1 (q2.trans hs) (by omega) hm ?_, k2, Kept.mono k1 (fun k e => e ▸ hP)⟩
 have q4 : (cs.toList.take ((tQ xs).map bl ++ List.replicate (xs.length - (tQ xs).length) []).length).take (tQ xs).length = _ := congrArg (List.take (tQ xs).length) q3
 rw [List.take_take, List.length_append, List.length_map, Nat.min_eq_left (Nat.le_add_right _ _), List.map_append, List.take_append_of_le_length (by rw [List.length_map, List.length_map]; exact Nat.le_refl _)] at q4
 rw [q4, List.take_of_length_le (by rw [List.length_map, List.length_map]; exact Nat.le_refl _), List.map_map]
 exact List.map_congr_left (fun s _ => Ey s)
def sort_Strings.f (l0 : List ByteArray) : Option (List ByteArray) := if l0.length < 4611686018427387904 then some (BG l0) else none
theorem sort_Strings.calls (P0_ : Nat → Prop) (v0 : Value) (l0 : List ByteArray) (r1 : List ByteArray) (w0 w : World) (hB : Below w0.heap.size w0 w) (eH : Kd.R Kd.string 9 w w0.heap.size P0_ v0 l0) (h : sort_Strings.f l0 = some r1) :
  Calls Tryz.prog 38 #[v0] w fun e w' => e = .returned (.tuple #[]) ∧ Kd.R Kd.string 9 w' w0.heap.size P0_ v0 r1 ∧ Below w0.heap.size w0 w' ∧ Kept w w' P0_ := by
 unfold sort_Strings.f at h
 by_cases hl : l0.length < 4611686018427387904
 ·rw [if_pos hl] at h
  obtain rfl := Option.some.inj h
  obtain ⟨A, c, rfl⟩ := Kd.cZ eH
  exact rf eH hB hl
 rw [if_neg hl] at h
 cases h
def jM.f (l0 : List ByteArray) : Option (List ByteArray) := some (tQ l0)
theorem jM.calls (P0_ : Nat → Prop) (v0 : Value) (l0 : List ByteArray) (r1 : List ByteArray) (w0 w : World) (hB : Below w0.heap.size w0 w) (eH : Kd.R Kd.string 9 w w0.heap.size P0_ v0 l0) (h : jM.f l0 = some r1) :
  Calls Tryz.prog 39 #[v0] w fun e w' => ∃ v0_ : Value, e = .returned (v0_) ∧ Kd.R Kd.string 9 w' w0.heap.size (fun k_ => P0_ k_ ∨ w.heap.size ≤ k_) v0_ r1 ∧ Below w0.heap.size w0 w' ∧ Kept w w' P0_ := by
 obtain rfl := Option.some.inj h
 obtain ⟨A, c, rfl⟩ := Kd.cZ eH
 refine (Ll eH hB).mono ?_
 rintro e w' ⟨he, hr, hb, hk⟩
 exact ⟨_, he, Kd.aT hr (fun k h => Or.inl h), hb, hk⟩
def eG.l0 : Nat → List ByteArray → Int → List (S52) → Int → Int → List ByteArray → List (S52) → List ByteArray → List (S52) → Option (List ByteArray × (List (S52)) × Int)
 | 0, _, _, _, _, _, _, _, _, _ => none
 | k + 1, e, a, g, l, b, h, d, i, j => if b < l then (if 0 ≤ b then (if b < (g.length : Int) then (if b = a then (eG.l0 k e a g l (wrap64 (b + 1)) h d i j) else ((mD.f ((aA g b).f1) e).bind fun o => (if o = true then (some (i, j, 5)) else (eG.l0 k e a g l (wrap64 (b + 1)) h d i j)))) else (none)) else (none)) else ((dM.f k h d).bind fun c => (if 0 ≤ a then (if a < (d.length : Int) then ((dW.f ((aA d a).f1)).bind fun n => (if n.length + e.length < 8796093022208 then ((sort_Strings.f (n ++ e)).bind fun p => ((jM.f p).bind fun q => (if a < (c.2.length : Int) then ((some (c.2.set (a : Int).toNat (⟨(aA c.2 a).f0, q, (aA c.2 a).f2⟩ : S52) : List (S52))).bind fun m => ((jH.f k h d).bind fun r => (if r = true then ((jH.f k c.1 m).bind fun s => (if s = true then (some (c.1, m, 0)) else (some (i, j, 6)))) else (some (c.1, m, 0))))) else (none)))) else (none))) else (none)) else (none)))
def eG.f (k : Nat) (aZ : List ByteArray) (aI : List (S52)) (a1 : ByteArray) (l2 : List ByteArray) : Option (List ByteArray × (List (S52)) × Int) := (aM.f k aZ aI).bind fun c => (if c = true then ((dM.f k aZ aI).bind fun a => ((gH.f aZ aI a1).bind fun b => (if b < 0 then (some (a.1, a.2, 3)) else (if 0 ≤ b then (if b < (aI.length : Int) then ((iC.f k l2 ((aA aI b).f2)).bind fun d => (if d = true then (eG.l0 k l2 b aI (aI.length : Int) 0 aZ aI a.1 a.2) else (some (a.1, a.2, 2)))) else (none)) else (none))))) else (some (([] : List ByteArray), ([] : List (S52)), 1)))
def eG.T18 : Bool × List (List Nat × List Nat) := (true, [([], []), ([0], [0]), ([], []), ([], []), ([3], [3]), ([1, 2, 0, 1, 2, 3, 4], [1, 2]), ([5, 0, 1, 2, 3, 4], [5]), ([6, 4, 4, 0, 1, 2, 3, 4], [4, 6])])
def eG.B18 : List Nat := [0, 1, 0, 0, 8, 31, 63, 127]
theorem eG.Ty : rtab .any (opsOf Tryz.f7 18) = eG.T18 := by kernel_rfl
theorem eG.Ei : o5 eG.T18.2 eG.B18 = true := by kernel_rfl
theorem eG.calls (k : Nat) (eE : Option Addr) (eF : Nat) (aZ : List ByteArray) (eV : Option Addr) (eC : Nat) (aI : List (S52)) (a1 : ByteArray) (A2 : Option Addr) (c2 : Nat) (l2 : List ByteArray) (r1 : List ByteArray) (r2 : List (S52)) (r3 : Int) (w : World) (gP : Kd.C Kd.string w eE aZ.length aZ) (gN : aZ.length ≤ eF) (gK : Kd.C k52 w eV aI.length aI) (gO : aI.length ≤ eC) (Q7 : Kd.C Kd.string w A2 l2.length l2) (MA : l2.length ≤ c2) (h : eG.f k aZ aI a1 l2 = some (r1, r2, r3)) :
  Calls Tryz.prog 7 #[.agg #[.slice eE aZ.length eF, .slice eV aI.length eC], .string a1, .slice A2 l2.length c2] w fun e w' => ∃ v0_ v1_ : Value, e = .returned (.tuple #[.agg #[v0_, v1_], .int .i64 r3]) ∧ Kd.R Kd.string 9 w' w.heap.size (fun _ => True) v0_ r1 ∧ Kd.S k52 52 w' w.heap.size (fun k_ => some k_ ≠ (v0_ : Value).ownBlock) v1_ r2 ∧ Below w.heap.size w w' := by
 have hu26 := Tryz.underlying26
 have hu52 := Tryz.underlying52
 obtain ⟨dT, dS⟩ := mZ2 gP gN
 obtain ⟨bV, eS⟩ := mZ2 gK gO
 obtain ⟨B0, yN⟩ := mZ2 Q7 MA
 clear gP gN gK gO Q7 MA
 have HB := am (Below.refl w.heap.size w)
 unfold eG.f at h
 have H := h
 clear h
 obtain ⟨pN, A4, H⟩ := bd H
 refine tC H ?_ ?_ <;> clear H <;> intro c5 H <;> subst c5
 obtain ⟨⟨dB, bM⟩, A6, H⟩ := bd H
 dsimp only at H
 obtain ⟨bZ, A7, H⟩ := bd H
 refine ic H ?_ ?_ <;> clear H <;> intro H3 H
 obtain ⟨rfl, rfl, rfl⟩ := sZ3 H
 repeat clear H
 have PW := trivial
 have ae := trivial
 rotate_left
 obtain ⟨SV, H⟩ := cN H
 obtain ⟨SW, H⟩ := cN H
 obtain ⟨K5, Za, H⟩ := bd H
 refine tC H ?_ ?_ <;> clear H <;> intro bj H <;> subst bj
 have H' := am H
 repeat clear H
 have PW := trivial
 have Pa := trivial
 have af := trivial
 rotate_left
 obtain ⟨rfl, rfl, rfl⟩ := sZ3 H
 repeat clear H
 have PW := trivial
 have Pa := trivial
 have ag := trivial
 rotate_left
 obtain ⟨rfl, rfl, rfl⟩ := sZ3 H
 repeat clear H
 have ah := trivial
 rotate_left
 all_goals
  go_enter Tryz.func7, Tryz.ntmps7
  go_wp2_with (first | ((with_reducible refine gD 3 ?_); refine bX 3 #[.slice eE aZ.length eF, .slice eV aI.length eC] 26 ?_; intro aW hg aPG hbox hb; have a6 := am hbox; have iS := am (u4 : w.heap.size ≤ aW); have j5 := iS; replace HB := bS iJ hb; clear hb hbox hg) | ((with_reducible refine gD 6 ?_); refine bX 6 #[.slice none 0 0, .slice none 0 0] 26 ?_; intro bK hg aPH hbox hb; have aQ := am hbox; have qJ := am (EF : w.heap.size ≤ bK); have oI := qJ; replace HB := bS fH hb; have dJ := nL d3 hg; have dL := nG d3 hg; replace a6 := bB d3 hb; clear hb hbox hg; have aJ7 := nZ1 dJ dL; have zh := cz2 a6) | ((with_reducible refine gC 14 ?_); revert PW; intro PW; refine cQ (some 15) Tryz.func14 (aM.calls k _ _ aZ _ _ aI true _ (pB dT) dS.1 (pB bV) eS.1 A4.out) ?_; rintro aPI hb; replace a6 := bB d3 hb; replace aQ := bB eW hb; replace HB := bS kO hb; clear hb; have zi := cz2 a6) | ((with_reducible refine gC 24 ?_); revert PW; intro PW; refine cE (some 19) Tryz.func24 (dM.calls k _ _ aZ _ _ aI dB bM _ (pB dT) dS.1 (pB bV) eS.1 A6.out) ?_; rintro e aPJ ⟨H6, D0, rfl, eH, lW, hb⟩; refine ⟨_, rfl, ?_⟩; have gG := am (Kd.dO eH (aG kO)); have fD := am (Kd.X6 lW (aG kO)); replace a6 := bB d3 hb; replace aQ := bB eW hb; replace HB := bS kO hb; clear hb eH lW) | ((with_reducible refine gD 8 ?_); revert PW; intro PW; refine bX 8 #[.slice none 0 0, .slice none 0 0] 26 ?_; intro bC hg aPK hbox hb; replace gG := RB uB hb; replace fD := am (Kd.wB (rS fD.1) hb); have aV := am hbox; have C1 := am (UN : w.heap.size ≤ bC); have sO := C1; replace HB := bS kO hb; have fM := nL d3 hg; have gJ := nG d3 hg; replace a6 := bB d3 hb; have g4 := nL eW hg; have iL := nG eW hg; replace aQ := bB eW hb; clear hb hbox hg; obtain ⟨gW, gY, ot⟩ := Kd.cZ gG.1; subst ot; have aJ8 := nZ2 gJ fM iL g4; have zj := cz2 aV; obtain ⟨lA, lB, ou⟩ := Kd.FN fD.1; subst ou; have zk := cz2 a6) | ((with_reducible refine gC 27 ?_); revert ae; intro ae; refine cQ (some 22) Tryz.func27 (gH.calls _ _ aZ _ _ aI a1 bZ _ (Kd.aU dT.1 fW) dS.1 (Kd.aU bV.1 fW) eS.1 A7.out) ?_; rintro aPL hb; replace gG := am (Kd.jA (by refine rR ?_; exact (Kd.aT (fR (fR (tR gG aV))) (fun _ h_ => h_.1))) hb); replace fD := am (Kd.wB (by refine rS ?_; exact (Kd.gX (fS (fS (tS fD aV))) (fun _ h_ => h_.1))) hb); replace a6 := am (aX (g := aW) (o := .cells #[.slice eE aZ.length eF, .slice eV aI.length eC] 26 (0, 0)) YR hb); replace aQ := am (aX (g := bK) (o := .cells #[.slice none 0 0, .slice none 0 0] 26 (0, 0)) YS hb); replace aV := am (aX (g := bC) (o := .cells #[.slice gW dB.length gY, .slice lA bM.length lB] 26 (0, 0)) (qP aV) hb); replace HB := bS fW hb; clear hb; have aJ9 := cz2 aV; have aJA := cz2 aQ) | ((with_reducible refine gC 27 ?_); revert Pa; intro Pa; refine cQ (some 22) Tryz.func27 (gH.calls _ _ aZ _ _ aI a1 bZ _ (Kd.aU dT.1 fW) dS.1 (Kd.aU bV.1 fW) eS.1 A7.out) ?_; rintro O7 hb; replace gG := am (Kd.jA (by refine rR ?_; exact (Kd.aT (fR (fR (tR gG aV))) (fun _ h_ => h_.1))) hb); replace fD := am (Kd.wB (by refine rS ?_; exact (Kd.gX (fS (fS (tS fD aV))) (fun _ h_ => h_.1))) hb); replace a6 := am (aX (g := aW) (o := .cells #[.slice eE aZ.length eF, .slice eV aI.length eC] 26 (0, 0)) YR hb); replace aQ := am (aX (g := bK) (o := .cells #[.slice none 0 0, .slice none 0 0] 26 (0, 0)) YS hb); replace aV := am (aX (g := bC) (o := .cells #[.slice gW dB.length gY, .slice lA bM.length lB] 26 (0, 0)) (qP aV) hb); replace HB := bS fW hb; clear hb; have zl := cz2 a6; obtain ⟨oR, WJ, XB, WK, XC, LD, yA, BL, BM, ML, QZ, x6, y4, UK, UU⟩ := aT52 bV HB bZ; cases LD) | ((with_reducible refine gC 26 ?_); revert af; intro af; refine cQ (some 35) Tryz.func26 (iC.calls k _ _ l2 _ _ ((aA aI bZ).f2) true _ (pB B0) yN.1 (pB x6) y4.1 Za.out) ?_; rintro w' ⟨nd, rfl⟩) | ((with_reducible refine gC 26 ?_); revert ag; intro ag; refine cQ (some 35) Tryz.func26 (iC.calls k _ _ l2 _ _ ((aA aI bZ).f2) false _ (pB B0) yN.1 (pB x6) y4.1 Za.out) ?_; rintro w' ⟨nd, rfl⟩; (try (rw [FV O7]; generalize hq_ : World.drewN O7 _ = O7; have n0_ : aC (Kd.R Kd.string 9 O7 w.heap.size (fun k_ => True) (.slice gW dB.length gY) dB) := ⟨by rw [← hq_]; exact uB⟩; have n1_ : aC (Kd.S k52 52 O7 w.heap.size (fun k_ => some k_ ≠ (.slice gW dB.length gY : Value).ownBlock) (.slice lA bM.length lB) bM) := ⟨by rw [← hq_]; exact (rS fD.1)⟩; have n2_ : aC (O7.heap[aW]? = some (.cells #[.slice eE aZ.length eF, .slice (some oR) aI.length eC] 26 (0, 0))) := ⟨by rw [← hq_]; exact d3⟩; have n3_ : aC (O7.heap[bK]? = some (.cells #[.slice none 0 0, .slice none 0 0] 26 (0, 0))) := ⟨by rw [← hq_]; exact eW⟩; have n4_ : aC (O7.heap[bC]? = some (.cells #[.slice gW dB.length gY, .slice lA bM.length lB] 26 (0, 0))) := ⟨by rw [← hq_]; exact iD⟩; have n5_ : aC (Below w.heap.size w O7) := ⟨by rw [← hq_]; exact fW⟩; clear gG fD a6 aQ aV HB hq_; have gG := n0_; have fD := n1_; have a6 := n2_; have aQ := n3_; have aV := n4_; have HB := n5_; clear n0_ n1_ n2_ n3_ n4_ n5_)); have aJB := cz2 aV; have aJC := cz2 aQ) | ((with_reducible refine gC 14 ?_); revert ah; intro ah; refine cQ (some 15) Tryz.func14 (aM.calls k _ _ aZ _ _ aI false _ (pB dT) dS.1 (pB bV) eS.1 A4.out) ?_; rintro aPM hb; replace a6 := bB d3 hb; replace aQ := bB eW hb; replace HB := bS kO hb; clear hb; have aJD := cz2 aQ))
 ·refine cT bK 26 #[.slice gW dB.length gY, .slice lA bM.length lB] (qP aQ) Tryz.underlying26 ?_
  exact ⟨_, _, eR, mR gG aQ, mS fD aQ, fW⟩
 ·go_loopg [41] k (fun kq v41 w' => ∃ (yM : Int), v41 = .int .i64 yM ∧ aC (eG.l0 kq l2 bZ aI (aI.length : Int) yM aZ aI dB bM = some (r1, r2, r3)) ∧ aC (kq ≤ k) ∧ aC (Kd.R Kd.string 9 w' w.heap.size (fun _ => True) (.slice gW dB.length gY) dB) ∧ aC (Kd.S k52 52 w' w.heap.size (fun k_ => some k_ ≠ ((.slice gW dB.length gY) : Value).ownBlock) (.slice lA bM.length lB) bM) ∧ aC (w'.heap[aW]? = some (.cells #[(.slice eE aZ.length eF), (.slice (some oR) aI.length eC)] 26 (0, 0))) ∧ aC (w'.heap[bK]? = some (.cells #[(.slice none 0 0), (.slice none 0 0)] 26 (0, 0))) ∧ aC (w'.heap[bC]? = some (.cells #[(.slice gW dB.length gY), (.slice lA bM.length lB)] 26 (0, 0))) ∧ aC (Below w.heap.size w w'))
  case atStart => exact ⟨(0), dU, H', ⟨Nat.le_refl _⟩, ⟨rR gG.1⟩, ⟨rS fD.1⟩, ⟨rB a6.1⟩, ⟨rB aQ.1⟩, ⟨rB aV.1⟩, ⟨fW⟩⟩
  clear H'
  try clear c2
  try clear c5
  try clear H3
  try clear SV
  try clear SW
  try clear bj
  try clear zh
  try clear zi
  try clear zj
  try clear zk
  try clear zl
  try clear yA BL BM
  try clear UK UU
  obtain ⟨yM, rfl, HA, HK1, aH, aD, a6, aQ, aV, HB⟩ := hrel
  cases gk with
  | zero => exact absurd HA.out (by simp [eG.l0])
  | succ k1 =>
   have H := HA.out
   clear HA
   simp only [eG.l0] at H
   refine ic H ?_ ?_ <;> clear H <;> intro VK H
   obtain ⟨a0B, H⟩ := cN H
   obtain ⟨bo, H⟩ := cN H
   refine iq H ?_ ?_ <;> clear H <;> intro Em Am Ij H
   have H' := am H
   repeat clear H
   obtain ⟨tE, KW, LC, OA, OW, XR, RH, JS, JT, x7, J1, zQ, R0, QL, QN⟩ := aT52 bV HB yM
   obtain rfl : oR = tE := (by injection XR)
   have Hr := trivial
   rotate_left
   obtain ⟨Mw, Zb, H⟩ := bd H
   refine tC H ?_ ?_ <;> clear H <;> intro c56 H <;> subst c56
   obtain ⟨rfl, rfl, rfl⟩ := sZ3 H
   repeat clear H
   obtain ⟨tE, KW, LC, OA, OW, XR, RH, JS, JT, x7, J1, zQ, R0, QL, QN⟩ := aT52 bV HB yM
   obtain rfl : oR = tE := (by injection XR)
   have Hr := trivial
   have ai := trivial
   rotate_left
   have H' := am H
   repeat clear H
   obtain ⟨tE, KW, LC, OA, OW, XR, RH, JS, JT, x7, J1, zQ, R0, QL, QN⟩ := aT52 bV HB yM
   obtain rfl : oR = tE := (by injection XR)
   have Hr := trivial
   have aj := trivial
   rotate_left
   obtain ⟨⟨lC, lJ⟩, A74, H⟩ := bd H
   dsimp only at H
   obtain ⟨aKS, H⟩ := cN H
   obtain ⟨aKU, H⟩ := cN H
   obtain ⟨O3, A77, H⟩ := bd H
   obtain ⟨wv, H⟩ := cL H
   obtain ⟨IY, SG⟩ := yv (O3 ++ l2); first | replace H := bW SG H | rw [← SG.1] at H
   obtain ⟨t131, A79, H⟩ := bd H
   obtain ⟨FD, A80, H⟩ := bd H
   obtain ⟨a0I, H⟩ := cN H
   obtain ⟨UC, Pp, H⟩ := bY H
   obtain ⟨IU, A83, H⟩ := bd H
   refine tC H ?_ ?_ <;> clear H <;> intro c84 H <;> subst c84
   obtain ⟨aTC, A85, H⟩ := bd H
   refine tC H ?_ ?_ <;> clear H <;> intro c86 H <;> subst c86
   obtain ⟨rfl, rfl, rfl⟩ := sZ3 H
   repeat clear H
   have Z87 := nZ2 dJ dL fM gJ
   have Z89 := cz2 a6
   have GW := trivial
   rotate_left
   obtain ⟨rfl, rfl, rfl⟩ := sZ3 H
   repeat clear H
   have aB9 := nZ2 dJ dL fM gJ
   have aBA := cz2 a6
   have GW := trivial
   rotate_left
   obtain ⟨rfl, rfl, rfl⟩ := sZ3 H
   repeat clear H
   have aR9 := nZ2 dJ dL fM gJ
   have aBF := cz2 a6
   have GW := trivial
   rotate_left
   all_goals
    try go_wp2_with (first | ((with_reducible refine gD 11 ?_); revert Hr; intro Hr; refine bX 11 #[.string (⟨#[]⟩ : ByteArray), .slice none 0 0, .slice none 0 0] 52 ?_; intro TI hg aPN hbox hb; replace aH := RB fU hb; replace aD := am (Kd.wB (Kd.Ab NR TI (Nat.le_of_eq hg.symm)) hb); have RU := am hbox; have vt := am (qr : w.heap.size ≤ TI); have vl := vt; replace HB := bS fW hb; have J5 := nL d3 hg; have Kn := nG d3 hg; replace a6 := bB d3 hb; have J6 := nL eW hg; have Ko := nG eW hg; replace aQ := bB eW hb; have J9 := nL iD hg; have Kp := nG iD hg; replace aV := bB iD hb; clear hb hbox hg; have aJE := nZ3 Kn J5 Ko J6 Kp J9; have aJF := cz3 RU) | (go_at_call 37; revert ai; intro ai; revert Zb; intro Zb; refine cM (mD.calls _ _ ((aA aI yM).f1) _ _ l2 true _ (Kd.aU x7.1 YT) J1.1 (Kd.aU B0.1 YT) yN.1 Zb.out) ?_; rintro aPO hb; replace aH := am (Kd.jA (by refine rR ?_; exact (Kd.aT (fR (fR (fR (tR aH RU)))) (fun _ h_ => h_.1))) hb); replace aD := am (Kd.wB (by refine rS ?_; exact (Kd.gX (fS (fS (fS (Kd.gX aD.1 (fun k_ hk => (⟨hk, hk.2⟩ : _ ∧ k_ ≠ TI)))))) (fun _ h_ => h_.1))) hb); replace a6 := am (aX (g := aW) (o := .cells #[.slice eE aZ.length eF, .slice (some oR) aI.length eC] 26 (0, 0)) (qF a6 J5) hb); replace aQ := am (aX (g := bK) (o := .cells #[.slice none 0 0, .slice none 0 0] 26 (0, 0)) (qF aQ J6) hb); replace aV := am (aX (g := bC) (o := .cells #[.slice gW dB.length gY, .slice lA bM.length lB] 26 (0, 0)) (qF aV J9) hb); replace RU := am (aX (g := TI) (o := .cells #[.string ((aA aI yM).f0), .slice KW ((aA aI yM).f1).length LC, .slice OA ((aA aI yM).f2).length OW] 52 (0, 0)) pY3 hb); replace HB := bS YT hb; clear hb; have aJG := nZ2 gJ fM iL g4; have aJH := cz2 aV; have aJI := nZ1 dL dJ; have aJJ := cz2 aQ; clear Zb) | (go_at_call 37; revert aj; intro aj; revert Zb; intro Zb; refine cM (mD.calls _ _ ((aA aI yM).f1) _ _ l2 false _ (Kd.aU x7.1 YT) J1.1 (Kd.aU B0.1 YT) yN.1 Zb.out) ?_; rintro aPP hb; replace aH := am (Kd.jA (by refine rR ?_; exact (Kd.aT (fR (fR (fR (tR aH RU)))) (fun _ h_ => h_.1))) hb); replace aD := am (Kd.wB (by refine rS ?_; exact (Kd.gX (fS (fS (fS (Kd.gX aD.1 (fun k_ hk => (⟨hk, hk.2⟩ : _ ∧ k_ ≠ TI)))))) (fun _ h_ => h_.1))) hb); replace a6 := am (aX (g := aW) (o := .cells #[.slice eE aZ.length eF, .slice (some oR) aI.length eC] 26 (0, 0)) (qF a6 J5) hb); replace aQ := am (aX (g := bK) (o := .cells #[.slice none 0 0, .slice none 0 0] 26 (0, 0)) (qF aQ J6) hb); replace aV := am (aX (g := bC) (o := .cells #[.slice gW dB.length gY, .slice lA bM.length lB] 26 (0, 0)) (qF aV J9) hb); replace RU := am (aX (g := TI) (o := .cells #[.string ((aA aI yM).f0), .slice KW ((aA aI yM).f1).length LC, .slice OA ((aA aI yM).f2).length OW] 52 (0, 0)) pY3 hb); replace HB := bS YT hb; clear hb; clear Zb) | ((with_reducible refine gC 24 ?_); revert GW; intro GW; refine cE (some 58) Tryz.func24 (dM.calls k1 _ _ aZ _ _ aI lC lJ _ (pB dT) dS.1 (pB bV) eS.1 A74.out) ?_; rintro e aPQ ⟨aFG, PM, rfl, eH, lW, hb⟩; refine ⟨_, rfl, ?_⟩; have jN := am (Kd.dO (Kd.fF eH (Kd.R_lt fU)) (aG fW)); have eU := am (Kd.X6 (Kd.Pv (Kd.Pv lW (Kd.R_lt fU)) (Kd.S_lt NR)) (aG fW)); replace aH := am (Kd.dV fU (Kd.bT eH) hb); replace aD := am (Kd.gX (Kd.Pw (Kd.Pw (Kd.yj NR hb) (Kd.bT eH)) (Kd.E9 lW)) (fun _ h_ => h_.1)); replace a6 := bB d3 hb; replace aQ := bB eW hb; replace aV := bB iD hb; replace HB := bS fW hb; clear hb eH lW) | ((with_reducible refine gD 12 ?_); revert GW; intro GW; refine bX 12 #[.slice none 0 0, .slice none 0 0] 26 ?_; intro EY hg aPR hbox hb; replace aH := RB fU hb; replace aD := SB NR hb; replace jN := RB KR hb; replace eU := SB VX hb; have jS := am hbox; have Oj := am (qr : w.heap.size ≤ EY); have Hc := Oj; replace HB := bS fW hb; have OD := nL d3 hg; have Ks := nG d3 hg; replace a6 := bB d3 hb; have OG := nL eW hg; have Kt := nG eW hg; replace aQ := bB eW hb; have OK := nL iD hg; have Ku := nG iD hg; replace aV := bB iD hb; clear hb hbox hg; obtain ⟨iW, iX, ov⟩ := Kd.cZ jN.1; subst ov; have aJK := nZ3 Ks OD Kt OG Ku OK; have aJL := cz2 jS; obtain ⟨FH, p2, ow⟩ := Kd.FN eU.1; subst ow; have aJM := cz2 a6; have qk : 0 ≤ (bZ : Int) := oT; have qy : bZ < (aI.length : Int) := oT; obtain ⟨zp, aA4, aC2, aA5, aC3, aCY, DP, JU, JV, Jn, Jg, Jo, Jh⟩ := CB bV.1 bZ qk qy; obtain rfl : oR = zp := (by injection aCY); have hn124_0 : oR.block ≠ EY := Nat.ne_of_lt (Nat.lt_of_lt_of_le (by have := World.block_lt_of_cell? _ _ DP; first | rwa [add_block] at this | exact this) Oj.out); have hn124_1 : oR.block ≠ EY := Nat.ne_of_lt (Nat.lt_of_lt_of_le (by have := World.block_lt_of_cell? _ _ DP; first | rwa [add_block] at this | exact this) Oj.out); replace DP := hX HB DP; replace JU := hX HB JU; replace JV := hX HB JV; have Vt := am Jg; have Vl := am Jn; clear Jg Jn; have a5C := am Jh; have a4Y := am Jo; clear Jh Jo; replace DP := (cell_far (p := ⟨EY, 0, none⟩) qt (.slice iW lC.length iX)).trans DP; replace JU := (cell_far (p := ⟨EY, 0, none⟩) qt (.slice iW lC.length iX)).trans JU; replace JV := (cell_far (p := ⟨EY, 0, none⟩) qt (.slice iW lC.length iX)).trans JV; replace DP := (cell_far (p := ⟨EY, 1, none⟩) qu (.slice FH lJ.length p2)).trans DP; replace JU := (cell_far (p := ⟨EY, 1, none⟩) qu (.slice FH lJ.length p2)).trans JU; replace JV := (cell_far (p := ⟨EY, 1, none⟩) qu (.slice FH lJ.length p2)).trans JV; clear hn124_0; clear hn124_1; replace qk := eq_true qk; replace qy := eq_true qy) | ((with_reducible refine gC 28 ?_); revert GW; intro GW; refine cE (some 65) Tryz.func28 (dW.calls _ _ ((aA aI bZ).f1) O3 _ (Kd.aU Vt.1 IM) Vl.1 A77.out) ?_; rintro e aPS ⟨Yr, rfl, eH, hb⟩; refine ⟨_, rfl, ?_⟩; replace aD := am (Kd.EQ (by refine rS ?_; exact (Kd.gX (fS (fS (tS aD jS))) (fun _ h_ => h_.1))) (Kd.bT eH) hb); replace eU := am (Kd.EQ (by refine rS ?_; exact (Kd.gX (fS (fS (tS eU jS))) (fun _ h_ => h_.1))) (Kd.bT eH) hb); have wS := am (Kd.dO (Kd.fF (Kd.fF eH (Kd.R_lt (by refine rR ?_; exact (Kd.aT (fR (fR (tR aH jS))) (fun _ h_ => h_.1))))) (Kd.R_lt (by refine rR ?_; exact (Kd.aT (fR (fR (tR jN jS))) (fun _ h_ => h_.1))))) (aG IM)); replace aH := am (Kd.dV (by refine rR ?_; exact (Kd.aT (fR (fR (tR aH jS))) (fun _ h_ => h_.1))) (Kd.bT eH) hb); replace jN := am (Kd.dV (by refine rR ?_; exact (Kd.aT (fR (fR (tR jN jS))) (fun _ h_ => h_.1))) (Kd.bT eH) hb); replace a6 := am (aX (g := aW) (o := .cells #[.slice eE aZ.length eF, .slice (some oR) aI.length eC] 26 (0, 0)) aEU hb); replace aQ := am (aX (g := bK) (o := .cells #[.slice none 0 0, .slice none 0 0] 26 (0, 0)) aEV hb); replace aV := am (aX (g := bC) (o := .cells #[.slice gW dB.length gY, .slice lA bM.length lB] 26 (0, 0)) aEW hb); replace jS := am (aX (g := EY) (o := .cells #[.slice iW lC.length iX, .slice FH lJ.length p2] 26 (0, 0)) (qP jS) hb); replace HB := bS IM hb; clear hb eH) | ((with_reducible refine lQ (b := .append) (xs := #[.tmp 65, .tmp 66]) rfl ?_); revert GW; intro GW; at_builtin; refine Kd.E5 Kd.string (w0 := w) w.heap.size rfl (.tmp 65) (.tmp 66) 23 9 (.string ⟨#[]⟩) 16 rfl Tryz.underlying23 sQ rfl (by decide) (by omega) Yr O3 l2 _ _ _ (fun k_ => some k_ ≠ (.slice gW dB.length gY : Value).ownBlock ∧ some k_ ≠ (.slice iW lC.length iX : Value).ownBlock) (fun _ => False) rfl rfl ?aO ?aR (fun _ _ h => h) (fun _ h => h.elim) ?aF ?aB ?aS ?aL ?_; (case aR => repeat (first | exact (Kd.aU B0.1 HB.1) | (with_reducible refine Kd.nW ?_ _) | (with_reducible refine Kd.nX ?_ _) | (with_reducible refine Kd.pO ?_))); (case aB => exact IM); (case aF => exact (fun k_ hk => ⟨Kd.fresh' (Kd.R_lt fU) k_ hk, Kd.fresh' (Kd.R_lt KR) k_ hk⟩)); (case aO => exact (by refine rR ?_; exact Kd.aT wS.1 (fun _ hk => ⟨hk.1.2, hk.2⟩))); (case aS => exact (aG IM)); (case aL => have := wv.out; omega); intro a4A aPT ho hb hg hat; rw [← SG.out] at ho; replace aH := am (Kd.uP (ok := (fun k_ => some k_ ≠ (.slice iW lC.length iX : Value).ownBlock)) (by refine rR ?_; exact Kd.aT aH.1 (fun _ hk => ⟨hk.1.2, hk.2⟩)) hg hat); replace aD := am (Kd.Hz (ok := (fun k_ => some k_ ≠ (.slice gW dB.length gY : Value).ownBlock ∧ some k_ ≠ (.slice iW lC.length iX : Value).ownBlock ∧ some k_ ≠ (.slice FH lJ.length p2 : Value).ownBlock)) (by refine rS ?_; exact Kd.gX aD.1 (fun _ hk => ⟨⟨hk.1.1.1, ⟨hk.1.1.2, hk.1.2⟩⟩, hk.2⟩)) hg hat); replace a6 := gkR d3 hg wS a6; replace aQ := gkR eW hg wS aQ; replace aV := gkR iD hg wS aV; replace jN := am (Kd.uP (ok := (fun k_ => some k_ ≠ (.slice gW dB.length gY : Value).ownBlock)) (by refine rR ?_; exact Kd.aT jN.1 (fun _ hk => ⟨hk.1.2, hk.2⟩)) hg hat); replace eU := am (Kd.Hz (ok := (fun k_ => some k_ ≠ (.slice gW dB.length gY : Value).ownBlock ∧ some k_ ≠ (.slice lA bM.length lB : Value).ownBlock ∧ some k_ ≠ (.slice iW lC.length iX : Value).ownBlock)) (by refine rS ?_; exact Kd.gX eU.1 (fun _ hk => ⟨⟨hk.1.1.2, ⟨hk.1.2, hk.1.1.1⟩⟩, hk.2⟩)) hg hat); replace jS := gkR UR hg wS jS; replace HB := am hb; have mO := am ho; clear wS; clear ho hb hg hat; obtain ⟨AH, AN, ox⟩ := Kd.cZ mO.1; subst ox) | ((with_reducible refine gC 38 ?_); revert GW; intro GW; refine cQ (some 69) Tryz.func38 (sort_Strings.calls (fun k_ => some k_ = (.slice AH IY.length AN : Value).ownBlock) (.slice AH IY.length AN) IY t131 w _ (IM) (Kd.nA rfl mO.1) A79.out) ?_; rintro Ue ⟨hy0, hb, hkp⟩; replace aH := am (Kd.aT (ok' := fun k_ => some k_ ≠ (.slice iW lC.length iX : Value).ownBlock ∧ some k_ ≠ (.slice AH IY.length AN : Value).ownBlock) (Kd.DI (aH.1) hkp (fun k_ hk_ hs_ => (hk_.2) hs_)) (fun k_ hk_ => ⟨hk_.1.1, hk_.1.2⟩)); replace aD := am (Kd.gX (ok' := fun k_ => some k_ ≠ (.slice gW dB.length gY : Value).ownBlock ∧ some k_ ≠ (.slice iW lC.length iX : Value).ownBlock ∧ some k_ ≠ (.slice FH lJ.length p2 : Value).ownBlock ∧ some k_ ≠ (.slice AH IY.length AN : Value).ownBlock) (Kd.DJ (aD.1) hkp (fun k_ hk_ hs_ => (hk_.2) hs_)) (fun k_ hk_ => ⟨hk_.1.1.1, hk_.1.1.2.1, hk_.1.1.2.2, hk_.1.2⟩)); replace a6 := am (eB d3 hkp (fun hs_ => (fun e_ => (Kd.R_ne mO.1 a6.1 (by decide)) e_) hs_)); replace aQ := am (eB eW hkp (fun hs_ => (fun e_ => (Kd.R_ne mO.1 aQ.1 (by decide)) e_) hs_)); replace aV := am (eB iD hkp (fun hs_ => (fun e_ => (Kd.R_ne mO.1 aV.1 (by decide)) e_) hs_)); replace jN := am (Kd.aT (ok' := fun k_ => some k_ ≠ (.slice gW dB.length gY : Value).ownBlock ∧ some k_ ≠ (.slice AH IY.length AN : Value).ownBlock) (Kd.DI (jN.1) hkp (fun k_ hk_ hs_ => (hk_.2) hs_)) (fun k_ hk_ => ⟨hk_.1.1, hk_.1.2⟩)); replace eU := am (Kd.gX (ok' := fun k_ => some k_ ≠ (.slice gW dB.length gY : Value).ownBlock ∧ some k_ ≠ (.slice lA bM.length lB : Value).ownBlock ∧ some k_ ≠ (.slice iW lC.length iX : Value).ownBlock ∧ some k_ ≠ (.slice AH IY.length AN : Value).ownBlock) (Kd.DJ (eU.1) hkp (fun k_ hk_ hs_ => (hk_.2) hs_)) (fun k_ hk_ => ⟨hk_.1.1.1, hk_.1.1.2.1, hk_.1.1.2.2, hk_.1.2⟩)); replace jS := am (eB UR hkp (fun hs_ => (fun e_ => (Kd.R_ne mO.1 jS.1 (by decide)) e_) hs_)); replace mO := am (Kd.jo rfl hy0 (fun k_ e_ => mO.1.1 k_ e_)); replace HB := am hb; clear hb hkp hy0))
   ·go_roundg k1
    case measure => have := HK1.out; omega
    case rel => exact ⟨(wrap64 (yM + 1)), dU, H', ⟨by have := HK1.out; omega⟩, ⟨mR aH RU⟩, ⟨by refine rS ?_; exact Kd.gX (fS (fS (fS (Kd.gX aD.1 (fun k_ hk => (⟨hk, hk.2⟩ : _ ∧ k_ ≠ TI)))))) (fun _ hk => hk.1.1)⟩, ⟨qF a6 J5⟩, ⟨qF aQ J6⟩, ⟨qF aV J9⟩, ⟨YT⟩⟩
   ·refine cT bK 26 #[.slice gW dB.length gY, .slice lA bM.length lB] (qP aQ) Tryz.underlying26 ?_
    exact ⟨_, _, eR, mR aH aQ, mS aD aQ, YT⟩
   ·go_roundg k1
    case measure => have := HK1.out; omega
    case rel => exact ⟨(wrap64 (yM + 1)), dU, H', ⟨by have := HK1.out; omega⟩, ⟨rR aH.1⟩, ⟨by refine rS ?_; exact Kd.gX aD.1 (fun _ hk => hk.1)⟩, ⟨rB a6.1⟩, ⟨rB aQ.1⟩, ⟨rB aV.1⟩, ⟨YT⟩⟩
   ·replace aH := RD aH
    replace aD := SD aD
    replace jN := RD jN
    replace eU := SD eU
    replace mO := RD mO
    replace a6 := BD a6
    replace aQ := BD aQ
    replace aV := BD aV
    replace jS := BD jS
    replace HB := am (aY HB.1)
    refine sT [7] 8 (uA2 jS) (fun hHeld => ?_)
    refine fP eG.Ty eG.Ei (fun HT_ HW_ => ?_)
    generalize Ue.drew = aFS at aH aD jN eU mO a6 aQ aV jS HB hHeld ⊢
    refine pU3 0 2 3 ?_
    refine tK2 1 (some 71) ?_
    refine oN 4 (some 74) fun K hK => ?_
    refine gE Tryz.func39 (jM.calls (fun k_ => some k_ = (.slice AH IY.length AN : Value).ownBlock) (.slice AH IY.length AN) t131 FD w _ (IM) (Kd.nA rfl mO.1) A80.out) ?_
    rintro e M7 ⟨mJ, rfl, eH, hb, hkp⟩
    refine ⟨_, rfl, ?_⟩
    replace aD := am (Kd.gX (ok' := fun k_ => some k_ ≠ (.slice gW dB.length gY : Value).ownBlock ∧ some k_ ≠ (.slice iW lC.length iX : Value).ownBlock ∧ some k_ ≠ (.slice FH lJ.length p2 : Value).ownBlock ∧ some k_ ≠ (mJ : Value).ownBlock) (Kd.DJ (aD.1) hkp (fun k_ hk_ hs_ => (hk_.2.2.2) hs_)) (fun k_ hk_ => ⟨hk_.1.1, hk_.1.2.1, hk_.1.2.2.1, fun e_ => Or.elim (eH.1 k_ e_.symm) (fun hs_ => hk_.2.1 hs_) (fun hn_ => Nat.not_le.2 hk_.2.2 hn_)⟩))
    replace a6 := am (eB d3 hkp (fun hs_ => (fun e_ => (Kd.R_ne mO.1 a6.1 (by decide)) e_) hs_))
    replace aQ := am (eB eW hkp (fun hs_ => (fun e_ => (Kd.R_ne mO.1 aQ.1 (by decide)) e_) hs_))
    replace aV := am (eB iD hkp (fun hs_ => (fun e_ => (Kd.R_ne mO.1 aV.1 (by decide)) e_) hs_))
    replace eU := am (Kd.gX (ok' := fun k_ => some k_ ≠ (.slice gW dB.length gY : Value).ownBlock ∧ some k_ ≠ (.slice lA bM.length lB : Value).ownBlock ∧ some k_ ≠ (.slice iW lC.length iX : Value).ownBlock ∧ some k_ ≠ (mJ : Value).ownBlock) (Kd.DJ (eU.1) hkp (fun k_ hk_ hs_ => (hk_.2.2.2) hs_)) (fun k_ hk_ => ⟨hk_.1.1, hk_.1.2.1, hk_.1.2.2.1, fun e_ => Or.elim (eH.1 k_ e_.symm) (fun hs_ => hk_.2.1 hs_) (fun hn_ => Nat.not_le.2 hk_.2.2 hn_)⟩))
    replace jS := am (eB UR hkp (fun hs_ => (fun e_ => (Kd.R_ne mO.1 jS.1 (by decide)) e_) hs_))
    have y5 := am (Kd.aT (ok' := fun k_ => some k_ ≠ (.slice gW dB.length gY : Value).ownBlock ∧ some k_ ≠ (.slice iW lC.length iX : Value).ownBlock) eH (fun k_ hk_ => ⟨Or.elim hk_ (fun hs_ => fun e_ => (((aH.1).1 k_ e_.symm).2) hs_) (fun hn_ => (Kd.fresh' (Kd.R_lt fU) k_ hn_)), Or.elim hk_ (fun hs_ => fun e_ => (((jN.1).1 k_ e_.symm).2) hs_) (fun hn_ => (Kd.fresh' (Kd.R_lt KR) k_ hn_))⟩))
    replace aH := am (Kd.aT (ok' := fun k_ => some k_ ≠ (.slice iW lC.length iX : Value).ownBlock ∧ some k_ ≠ (mJ : Value).ownBlock) (Kd.DI (aH.1) hkp (fun k_ hk_ hs_ => (hk_.2) hs_)) (fun k_ hk_ => ⟨hk_.1.1, fun e_ => Or.elim (eH.1 k_ e_.symm) (fun hs_ => hk_.2.1 hs_) (fun hn_ => Nat.not_le.2 hk_.2.2 hn_)⟩))
    replace jN := am (Kd.aT (ok' := fun k_ => some k_ ≠ (.slice gW dB.length gY : Value).ownBlock ∧ some k_ ≠ (mJ : Value).ownBlock) (Kd.DI (jN.1) hkp (fun k_ hk_ hs_ => (hk_.2) hs_)) (fun k_ hk_ => ⟨hk_.1.1, fun e_ => Or.elim (eH.1 k_ e_.symm) (fun hs_ => hk_.2.1 hs_) (fun hn_ => Nat.not_le.2 hk_.2.2 hn_)⟩))
    replace HB := am hb
    clear mO
    clear hb hkp eH
    have Tf : 0 ≤ (bZ : Int) := oT
    have Tk : (bZ : Int) < ((lJ.length : Int) : Int) := oT
    obtain ⟨jQ, Wq, UE, Bc, gl82, cl82, HG82⟩ := Kd.SL eU.1 (by omega)
    (first | cases UE | (injection UE with ea_ en_ ec_; (first | subst ea_ | (injection ea_ with ea_; subst ea_)); subst ec_; clear en_))
    have GB82 := am Bc
    have GG82 := am HG82
    clear Bc gl82 HG82
    obtain ⟨_, ce82, hcl82, hM82, hcc82, hfr82, _, _⟩ := Kd.EA eU.1 z52 (bZ : Int) Tf Tk
    obtain ⟨ve82_1, ve82_2, rfl, Rn, Ro⟩ := uG hM82
    have Sa : World.cell? _ ⟨jQ, (bZ : Int).toNat * 3, none⟩ = some (.string ((aA lJ bZ).f0)) := hcc82 0 _ rfl
    have Sb : World.cell? _ ⟨jQ, (bZ : Int).toNat * 3 + 1, none⟩ = some (ve82_1) := hcc82 1 _ rfl
    have Sc : World.cell? _ ⟨jQ, (bZ : Int).toNat * 3 + 2, none⟩ = some (ve82_2) := hcc82 2 _ rfl
    have hf82_0 : World.frozen? _ ⟨jQ, (bZ : Int).toNat * 3, none⟩ = false := hfr82 0
    have hf82_1 : World.frozen? _ ⟨jQ, (bZ : Int).toNat * 3 + 1, none⟩ = false := hfr82 1
    have hf82_2 : World.frozen? _ ⟨jQ, (bZ : Int).toNat * 3 + 2, none⟩ = false := hfr82 2
    clear hcl82 hcc82 hfr82 hM82
    replace Tf := eq_true Tf
    replace Tk := eq_true Tk
    have HX105 := am (show Kd.S k52 52 M7 w.heap.size (fun k_ => ((fun k_ => some k_ ≠ (.slice gW dB.length gY : Value).ownBlock ∧ some k_ ≠ (.slice lA bM.length lB : Value).ownBlock ∧ some k_ ≠ (.slice iW lC.length iX : Value).ownBlock)) k_ ∧ ¬ ((fun k_ => some k_ = (mJ : Value).ownBlock)) k_) (.slice (some ⟨jQ, 0, none⟩) lJ.length p2) lJ from (by refine rS ?_; exact Kd.gX eU.1 (fun k_ hk => ⟨⟨hk.1, ⟨hk.2.1, hk.2.2.1⟩⟩, fun e_ => hk.2.2.2 e_⟩)))
    obtain ⟨oki105, ce105, hcl105, hM105, hcc105, hfr105, hoki105, hH105⟩ := Kd.EA HX105.out z52 (bZ : Int) (oT) (by have h_ : (bZ : Int) < ((lJ.length : Int) : Int) := oT; first | exact h_ | (have e_ := (Kd.rX eU.1).1; omega) | simpa using h_)
    obtain ⟨ve105_1, ve105_2, rfl, a5M, Is⟩ := uG hM105
    have HP105 := (Kd.Ac hH105 (oT) (by have h_ : (bZ : Int) < ((lJ.length : Int) : Int) := oT; first | exact h_ | (have e_ := (Kd.rX eU.1).1; omega) | simpa using h_) (seg := [mJ]) (j := 1) (show 2 ≤ 3 from by decide) (x' := (⟨(aA lJ bZ).f0, FD, (aA lJ bZ).f2⟩ : S52)) (DR _ _ _ (⟨(aA lJ bZ).f0, FD, (aA lJ bZ).f2⟩ : S52) (Kd.aT (Kd.nA rfl (Kd.aT (ok' := fun k_ => ((fun k_ => some k_ ≠ (.slice gW dB.length gY : Value).ownBlock ∧ some k_ ≠ (.slice lA bM.length lB : Value).ownBlock ∧ some k_ ≠ (.slice iW lC.length iX : Value).ownBlock)) k_ ∧ k_ ≠ jQ) (Kd.iU (Kd.iU (y5.1) (Kd.nC aD.1) (by decide)) (Kd.nC eU.1) (by decide)) (fun k_ hk => ⟨⟨hk.1.1.1, ⟨hk.1.2, hk.1.1.2⟩⟩, fun e_ => (hk.2) (by rw [e_]; rfl)⟩))) (fun _ h_ => Or.inr (h_))) (Kd.aT Is (fun _ h_ => Or.inl h_)) (fun k_ e1_ e2_ => (hoki105 k_ (Is.1 k_ e2_)).1.2 e1_.symm)) (fun _ hk => hk) (fun k_ hk_ => ((Kd.aT (ok' := fun k_ => ((fun k_ => some k_ ≠ (.slice gW dB.length gY : Value).ownBlock ∧ some k_ ≠ (.slice lA bM.length lB : Value).ownBlock ∧ some k_ ≠ (.slice iW lC.length iX : Value).ownBlock)) k_ ∧ k_ ≠ jQ) (Kd.iU (Kd.iU (y5.1) (Kd.nC aD.1) (by decide)) (Kd.nC eU.1) (by decide)) (fun k_ hk => ⟨⟨hk.1.1.1, ⟨hk.1.2, hk.1.1.2⟩⟩, fun e_ => (hk.2) (by rw [e_]; rfl)⟩))).1 k_ hk_.symm)).1
    rw [← Pp.out] at HP105
    have HQ105 := am HP105
    clear hcl105 hcc105 hfr105 hM105 HP105
    refine nK hK (uA2 jS).1 fun hHeld => ?_
    clear hK K
    refine pU2 5 6 ?_
    refine lN 7 none fun K hK => ?_
    refine AC (w1 := (M7.setCell ⟨jQ, (bZ : Int).toNat * 3 + 1, none⟩ (mJ))) (by rfl) rfl ?_ ?_
    skip
    ·obtain ⟨Az_, cz_, ez_⟩ := Kd.cZ y5.1
     subst ez_
     go_simp
     (try rfl)
    refine hK.out _ _ ?_
    clear hK K
    refine dN ?_
    have n0_ : aC (Kd.R Kd.string 9 (M7.setCell ⟨jQ, (bZ : Int).toNat * 3 + 1, none⟩ (mJ)) w.heap.size (fun k_ => some k_ ≠ (.slice iW lC.length iX : Value).ownBlock) (.slice gW dB.length gY) dB) := ⟨by refine rR ?_; exact Kd.aT (Kd.u6 (p := ⟨jQ, (bZ : Int).toNat * 3 + 1, none⟩) (tR aH GG82) (fun _ hk => hk.2) (mJ)) (fun _ hk => hk.1.1)⟩
    have n1_ : aC (Kd.S k52 52 (M7.setCell ⟨jQ, (bZ : Int).toNat * 3 + 1, none⟩ (mJ)) w.heap.size (fun k_ => some k_ ≠ (.slice gW dB.length gY : Value).ownBlock ∧ some k_ ≠ (.slice iW lC.length iX : Value).ownBlock ∧ some k_ ≠ (.slice (some ⟨jQ, 0, none⟩) lJ.length p2 : Value).ownBlock) (.slice lA bM.length lB) bM) := ⟨by refine rS ?_; exact Kd.gX (Kd.Ia (p := ⟨jQ, (bZ : Int).toNat * 3 + 1, none⟩) (Kd.gX aD.1 (fun k_ hk => (⟨hk, fun e_ => hk.2.2.1 (by rw [e_]; rfl)⟩ : _ ∧ k_ ≠ jQ))) (fun _ hk => hk.2) (mJ)) (fun _ hk => ⟨hk.1.1, ⟨hk.1.2.1, hk.1.2.2.1⟩⟩)⟩
    have n2_ : aC (Kd.R Kd.string 9 (M7.setCell ⟨jQ, (bZ : Int).toNat * 3 + 1, none⟩ (mJ)) w.heap.size (fun k_ => some k_ ≠ (.slice gW dB.length gY : Value).ownBlock) (.slice iW lC.length iX) lC) := ⟨by refine rR ?_; exact Kd.aT (Kd.u6 (p := ⟨jQ, (bZ : Int).toNat * 3 + 1, none⟩) (tR jN GG82) (fun _ hk => hk.2) (mJ)) (fun _ hk => hk.1.1)⟩
    have n3_ : aC (Kd.S k52 52 (M7.setCell ⟨jQ, (bZ : Int).toNat * 3 + 1, none⟩ (mJ)) w.heap.size (fun k_ => some k_ ≠ (.slice gW dB.length gY : Value).ownBlock ∧ some k_ ≠ (.slice lA bM.length lB : Value).ownBlock ∧ some k_ ≠ (.slice iW lC.length iX : Value).ownBlock) (.slice (some ⟨jQ, 0, none⟩) lJ.length p2) UC) := ⟨rS HQ105.out⟩
    have n4_ : aC ((M7.setCell ⟨jQ, (bZ : Int).toNat * 3 + 1, none⟩ (mJ)).heap[aW]? = some (.cells #[.slice eE aZ.length eF, .slice (some oR) aI.length eC] 26 (0, 0))) := ⟨by refine rB ?_; refine dD ?_ (by have h_ := Kd.S_ne eU.1 a6.1 (by decide); intro e_; exact h_ (by rw [e_]; rfl)) _; refine rB ?_; exact a6.1⟩
    have n5_ : aC ((M7.setCell ⟨jQ, (bZ : Int).toNat * 3 + 1, none⟩ (mJ)).heap[bK]? = some (.cells #[.slice none 0 0, .slice none 0 0] 26 (0, 0))) := ⟨by refine rB ?_; refine dD ?_ (by have h_ := Kd.S_ne eU.1 aQ.1 (by decide); intro e_; exact h_ (by rw [e_]; rfl)) _; refine rB ?_; exact aQ.1⟩
    have n6_ : aC ((M7.setCell ⟨jQ, (bZ : Int).toNat * 3 + 1, none⟩ (mJ)).heap[bC]? = some (.cells #[.slice gW dB.length gY, .slice lA bM.length lB] 26 (0, 0))) := ⟨by refine rB ?_; refine dD ?_ (by have h_ := Kd.S_ne eU.1 aV.1 (by decide); intro e_; exact h_ (by rw [e_]; rfl)) _; refine rB ?_; exact aV.1⟩
    have n7_ : aC ((M7.setCell ⟨jQ, (bZ : Int).toNat * 3 + 1, none⟩ (mJ)).heap[EY]? = some (.cells #[.slice iW lC.length iX, .slice (some ⟨jQ, 0, none⟩) lJ.length p2] 26 (0, 0))) := ⟨by refine rB ?_; refine dD ?_ (by have h_ := Kd.S_ne eU.1 jS.1 (by decide); intro e_; exact h_ (by rw [e_]; rfl)) _; refine rB ?_; exact jS.1⟩
    have n8_ : aC (Below w.heap.size w (M7.setCell ⟨jQ, (bZ : Int).toNat * 3 + 1, none⟩ (mJ))) := ⟨by repeat (first | (with_reducible first | exact HB.1 | apply cB | apply bA | apply aY | refine aK ?_ GB82.out | refine aK ?_ j5.1 | refine aK ?_ oI.1 | refine aK ?_ sO.1 | refine aK ?_ Hc.1) | exact HB.1)⟩
    (try clear aH)
    (try clear aD)
    (try clear jN)
    (try clear eU)
    (try clear a6)
    (try clear aQ)
    (try clear aV)
    (try clear jS)
    (try clear HB)
    generalize (M7.setCell ⟨jQ, (bZ : Int).toNat * 3 + 1, none⟩ (mJ)) = aU3 at n0_ n1_ n2_ n3_ n4_ n5_ n6_ n7_ n8_ ⊢
    have aH := n0_
    have aD := n1_
    have jN := n2_
    have eU := n3_
    have a6 := n4_
    have aQ := n5_
    have aV := n6_
    have jS := n7_
    have HB := n8_
    clear n0_ n1_ n2_ n3_ n4_ n5_ n6_ n7_ n8_
    have aB8 := cz2 a6
    try go_wp2_with (first | ((with_reducible refine gC 15 ?_); refine cQ (some 78) Tryz.func15 (jH.calls k1 _ _ aZ _ _ aI true _ (pB dT) dS.1 (pB bV) eS.1 A83.out) ?_; rintro a4E hb; replace aH := RB fU hb; replace aD := SB NR hb; replace jN := RB KR hb; replace eU := SB VX hb; replace a6 := bB d3 hb; replace aQ := bB eW hb; replace aV := bB iD hb; replace jS := bB UR hb; replace HB := bS IM hb; clear hb; have aQW := cz2 jS) | (go_at_call 15; refine KL (args' := #[.agg #[.slice iW lC.length iX, .slice (some ⟨jQ, 0, none⟩) UC.length p2]]) (by first | (rw [show UC.length = lJ.length from (Kd.rX eU.1).1.symm] <;> rfl) | rfl) ?_; (with_reducible refine (jH.calls k1 _ _ lC _ _ UC true _ ?side1 ?side2 ?side3 ?side4 A85.out).mono ?_); (case side1 => exact pC (Kd.bH jN.1).2.2); (case side2 => exact (Kd.bH jN.1).2.1); (case side3 => exact pC (Kd.rX eU.1).2.2); (case side4 => rw [show UC.length = lJ.length from (Kd.rX eU.1).1.symm]; exact (Kd.rX eU.1).2.1); rintro e aFV ⟨rfl, hb⟩; replace aH := RB fU hb; replace aD := SB NR hb; replace jN := RB KR hb; replace eU := SB VX hb; replace a6 := bB d3 hb; replace aQ := bB eW hb; replace aV := bB iD hb; replace jS := bB UR hb; replace HB := bS IM hb; clear hb; have yn := cz2 jS; have aQX := nZ1 g4 iL; have aQY := cz2 aQ))
    refine cT bK 26 #[.slice iW lC.length iX, .slice (some ⟨jQ, 0, none⟩) lJ.length p2] (qP aQ) Tryz.underlying26 ?_
    exact ⟨_, _, eR, mR jN aQ, by refine rS ?_; exact Kd.gX (fS (fS (tS eU aQ))) (fun _ hk => hk.1.2.2), IM⟩
   ·replace aH := RD aH
    replace aD := SD aD
    replace jN := RD jN
    replace eU := SD eU
    replace mO := RD mO
    replace a6 := BD a6
    replace aQ := BD aQ
    replace aV := BD aV
    replace jS := BD jS
    replace HB := am (aY HB.1)
    refine sT [7] 8 (uA2 jS) (fun hHeld => ?_)
    refine fP eG.Ty eG.Ei (fun HT_ HW_ => ?_)
    generalize Ue.drew = aUA at aH aD jN eU mO a6 aQ aV jS HB hHeld ⊢
    refine pU3 0 2 3 ?_
    refine tK2 1 (some 71) ?_
    refine oN 4 (some 74) fun K hK => ?_
    refine gE Tryz.func39 (jM.calls (fun k_ => some k_ = (.slice AH IY.length AN : Value).ownBlock) (.slice AH IY.length AN) t131 FD w _ (IM) (Kd.nA rfl mO.1) A80.out) ?_
    rintro e QS ⟨mJ, rfl, eH, hb, hkp⟩
    refine ⟨_, rfl, ?_⟩
    replace aD := am (Kd.gX (ok' := fun k_ => some k_ ≠ (.slice gW dB.length gY : Value).ownBlock ∧ some k_ ≠ (.slice iW lC.length iX : Value).ownBlock ∧ some k_ ≠ (.slice FH lJ.length p2 : Value).ownBlock ∧ some k_ ≠ (mJ : Value).ownBlock) (Kd.DJ (aD.1) hkp (fun k_ hk_ hs_ => (hk_.2.2.2) hs_)) (fun k_ hk_ => ⟨hk_.1.1, hk_.1.2.1, hk_.1.2.2.1, fun e_ => Or.elim (eH.1 k_ e_.symm) (fun hs_ => hk_.2.1 hs_) (fun hn_ => Nat.not_le.2 hk_.2.2 hn_)⟩))
    replace a6 := am (eB d3 hkp (fun hs_ => (fun e_ => (Kd.R_ne mO.1 a6.1 (by decide)) e_) hs_))
    replace aQ := am (eB eW hkp (fun hs_ => (fun e_ => (Kd.R_ne mO.1 aQ.1 (by decide)) e_) hs_))
    replace aV := am (eB iD hkp (fun hs_ => (fun e_ => (Kd.R_ne mO.1 aV.1 (by decide)) e_) hs_))
    replace eU := am (Kd.gX (ok' := fun k_ => some k_ ≠ (.slice gW dB.length gY : Value).ownBlock ∧ some k_ ≠ (.slice lA bM.length lB : Value).ownBlock ∧ some k_ ≠ (.slice iW lC.length iX : Value).ownBlock ∧ some k_ ≠ (mJ : Value).ownBlock) (Kd.DJ (eU.1) hkp (fun k_ hk_ hs_ => (hk_.2.2.2) hs_)) (fun k_ hk_ => ⟨hk_.1.1, hk_.1.2.1, hk_.1.2.2.1, fun e_ => Or.elim (eH.1 k_ e_.symm) (fun hs_ => hk_.2.1 hs_) (fun hn_ => Nat.not_le.2 hk_.2.2 hn_)⟩))
    replace jS := am (eB UR hkp (fun hs_ => (fun e_ => (Kd.R_ne mO.1 jS.1 (by decide)) e_) hs_))
    have y5 := am (Kd.aT (ok' := fun k_ => some k_ ≠ (.slice gW dB.length gY : Value).ownBlock ∧ some k_ ≠ (.slice iW lC.length iX : Value).ownBlock) eH (fun k_ hk_ => ⟨Or.elim hk_ (fun hs_ => fun e_ => (((aH.1).1 k_ e_.symm).2) hs_) (fun hn_ => (Kd.fresh' (Kd.R_lt fU) k_ hn_)), Or.elim hk_ (fun hs_ => fun e_ => (((jN.1).1 k_ e_.symm).2) hs_) (fun hn_ => (Kd.fresh' (Kd.R_lt KR) k_ hn_))⟩))
    replace aH := am (Kd.aT (ok' := fun k_ => some k_ ≠ (.slice iW lC.length iX : Value).ownBlock ∧ some k_ ≠ (mJ : Value).ownBlock) (Kd.DI (aH.1) hkp (fun k_ hk_ hs_ => (hk_.2) hs_)) (fun k_ hk_ => ⟨hk_.1.1, fun e_ => Or.elim (eH.1 k_ e_.symm) (fun hs_ => hk_.2.1 hs_) (fun hn_ => Nat.not_le.2 hk_.2.2 hn_)⟩))
    replace jN := am (Kd.aT (ok' := fun k_ => some k_ ≠ (.slice gW dB.length gY : Value).ownBlock ∧ some k_ ≠ (mJ : Value).ownBlock) (Kd.DI (jN.1) hkp (fun k_ hk_ hs_ => (hk_.2) hs_)) (fun k_ hk_ => ⟨hk_.1.1, fun e_ => Or.elim (eH.1 k_ e_.symm) (fun hs_ => hk_.2.1 hs_) (fun hn_ => Nat.not_le.2 hk_.2.2 hn_)⟩))
    replace HB := am hb
    clear mO
    clear hb hkp eH
    have Tf : 0 ≤ (bZ : Int) := oT
    have Tk : (bZ : Int) < ((lJ.length : Int) : Int) := oT
    obtain ⟨jQ, Wq, UE, Bc, gl82, cl82, HG82⟩ := Kd.SL eU.1 (by omega)
    (first | cases UE | (injection UE with ea_ en_ ec_; (first | subst ea_ | (injection ea_ with ea_; subst ea_)); subst ec_; clear en_))
    have GB82 := am Bc
    have GG82 := am HG82
    clear Bc gl82 HG82
    obtain ⟨_, ce82, hcl82, hM82, hcc82, hfr82, _, _⟩ := Kd.EA eU.1 z52 (bZ : Int) Tf Tk
    obtain ⟨ve82_1, ve82_2, rfl, Rn, Ro⟩ := uG hM82
    have Sa : World.cell? _ ⟨jQ, (bZ : Int).toNat * 3, none⟩ = some (.string ((aA lJ bZ).f0)) := hcc82 0 _ rfl
    have Sb : World.cell? _ ⟨jQ, (bZ : Int).toNat * 3 + 1, none⟩ = some (ve82_1) := hcc82 1 _ rfl
    have Sc : World.cell? _ ⟨jQ, (bZ : Int).toNat * 3 + 2, none⟩ = some (ve82_2) := hcc82 2 _ rfl
    have hf82_0 : World.frozen? _ ⟨jQ, (bZ : Int).toNat * 3, none⟩ = false := hfr82 0
    have hf82_1 : World.frozen? _ ⟨jQ, (bZ : Int).toNat * 3 + 1, none⟩ = false := hfr82 1
    have hf82_2 : World.frozen? _ ⟨jQ, (bZ : Int).toNat * 3 + 2, none⟩ = false := hfr82 2
    clear hcl82 hcc82 hfr82 hM82
    replace Tf := eq_true Tf
    replace Tk := eq_true Tk
    have HX132 := am (show Kd.S k52 52 QS w.heap.size (fun k_ => ((fun k_ => some k_ ≠ (.slice gW dB.length gY : Value).ownBlock ∧ some k_ ≠ (.slice lA bM.length lB : Value).ownBlock ∧ some k_ ≠ (.slice iW lC.length iX : Value).ownBlock)) k_ ∧ ¬ ((fun k_ => some k_ = (mJ : Value).ownBlock)) k_) (.slice (some ⟨jQ, 0, none⟩) lJ.length p2) lJ from (by refine rS ?_; exact Kd.gX eU.1 (fun k_ hk => ⟨⟨hk.1, ⟨hk.2.1, hk.2.2.1⟩⟩, fun e_ => hk.2.2.2 e_⟩)))
    obtain ⟨oki132, ce132, hcl132, hM132, hcc132, hfr132, hoki132, hH132⟩ := Kd.EA HX132.out z52 (bZ : Int) (oT) (by have h_ : (bZ : Int) < ((lJ.length : Int) : Int) := oT; first | exact h_ | (have e_ := (Kd.rX eU.1).1; omega) | simpa using h_)
    obtain ⟨ve132_1, ve132_2, rfl, a5N, It⟩ := uG hM132
    have HP132 := (Kd.Ac hH132 (oT) (by have h_ : (bZ : Int) < ((lJ.length : Int) : Int) := oT; first | exact h_ | (have e_ := (Kd.rX eU.1).1; omega) | simpa using h_) (seg := [mJ]) (j := 1) (show 2 ≤ 3 from by decide) (x' := (⟨(aA lJ bZ).f0, FD, (aA lJ bZ).f2⟩ : S52)) (DR _ _ _ (⟨(aA lJ bZ).f0, FD, (aA lJ bZ).f2⟩ : S52) (Kd.aT (Kd.nA rfl (Kd.aT (ok' := fun k_ => ((fun k_ => some k_ ≠ (.slice gW dB.length gY : Value).ownBlock ∧ some k_ ≠ (.slice lA bM.length lB : Value).ownBlock ∧ some k_ ≠ (.slice iW lC.length iX : Value).ownBlock)) k_ ∧ k_ ≠ jQ) (Kd.iU (Kd.iU (y5.1) (Kd.nC aD.1) (by decide)) (Kd.nC eU.1) (by decide)) (fun k_ hk => ⟨⟨hk.1.1.1, ⟨hk.1.2, hk.1.1.2⟩⟩, fun e_ => (hk.2) (by rw [e_]; rfl)⟩))) (fun _ h_ => Or.inr (h_))) (Kd.aT It (fun _ h_ => Or.inl h_)) (fun k_ e1_ e2_ => (hoki132 k_ (It.1 k_ e2_)).1.2 e1_.symm)) (fun _ hk => hk) (fun k_ hk_ => ((Kd.aT (ok' := fun k_ => ((fun k_ => some k_ ≠ (.slice gW dB.length gY : Value).ownBlock ∧ some k_ ≠ (.slice lA bM.length lB : Value).ownBlock ∧ some k_ ≠ (.slice iW lC.length iX : Value).ownBlock)) k_ ∧ k_ ≠ jQ) (Kd.iU (Kd.iU (y5.1) (Kd.nC aD.1) (by decide)) (Kd.nC eU.1) (by decide)) (fun k_ hk => ⟨⟨hk.1.1.1, ⟨hk.1.2, hk.1.1.2⟩⟩, fun e_ => (hk.2) (by rw [e_]; rfl)⟩))).1 k_ hk_.symm)).1
    rw [← Pp.out] at HP132
    have HQ132 := am HP132
    clear hcl132 hcc132 hfr132 hM132 HP132
    refine nK hK (uA2 jS).1 fun hHeld => ?_
    clear hK K
    refine pU2 5 6 ?_
    refine lN 7 none fun K hK => ?_
    refine AC (w1 := (QS.setCell ⟨jQ, (bZ : Int).toNat * 3 + 1, none⟩ (mJ))) (by rfl) rfl ?_ ?_
    skip
    ·obtain ⟨Az_, cz_, ez_⟩ := Kd.cZ y5.1
     subst ez_
     go_simp
     (try rfl)
    refine hK.out _ _ ?_
    clear hK K
    refine dN ?_
    have n0_ : aC (Kd.R Kd.string 9 (QS.setCell ⟨jQ, (bZ : Int).toNat * 3 + 1, none⟩ (mJ)) w.heap.size (fun k_ => some k_ ≠ (.slice iW lC.length iX : Value).ownBlock) (.slice gW dB.length gY) dB) := ⟨by refine rR ?_; exact Kd.aT (Kd.u6 (p := ⟨jQ, (bZ : Int).toNat * 3 + 1, none⟩) (tR aH GG82) (fun _ hk => hk.2) (mJ)) (fun _ hk => hk.1.1)⟩
    have n1_ : aC (Kd.S k52 52 (QS.setCell ⟨jQ, (bZ : Int).toNat * 3 + 1, none⟩ (mJ)) w.heap.size (fun k_ => some k_ ≠ (.slice gW dB.length gY : Value).ownBlock ∧ some k_ ≠ (.slice iW lC.length iX : Value).ownBlock ∧ some k_ ≠ (.slice (some ⟨jQ, 0, none⟩) lJ.length p2 : Value).ownBlock) (.slice lA bM.length lB) bM) := ⟨by refine rS ?_; exact Kd.gX (Kd.Ia (p := ⟨jQ, (bZ : Int).toNat * 3 + 1, none⟩) (Kd.gX aD.1 (fun k_ hk => (⟨hk, fun e_ => hk.2.2.1 (by rw [e_]; rfl)⟩ : _ ∧ k_ ≠ jQ))) (fun _ hk => hk.2) (mJ)) (fun _ hk => ⟨hk.1.1, ⟨hk.1.2.1, hk.1.2.2.1⟩⟩)⟩
    have n2_ : aC (Kd.R Kd.string 9 (QS.setCell ⟨jQ, (bZ : Int).toNat * 3 + 1, none⟩ (mJ)) w.heap.size (fun k_ => some k_ ≠ (.slice gW dB.length gY : Value).ownBlock) (.slice iW lC.length iX) lC) := ⟨by refine rR ?_; exact Kd.aT (Kd.u6 (p := ⟨jQ, (bZ : Int).toNat * 3 + 1, none⟩) (tR jN GG82) (fun _ hk => hk.2) (mJ)) (fun _ hk => hk.1.1)⟩
    have n3_ : aC (Kd.S k52 52 (QS.setCell ⟨jQ, (bZ : Int).toNat * 3 + 1, none⟩ (mJ)) w.heap.size (fun k_ => some k_ ≠ (.slice gW dB.length gY : Value).ownBlock ∧ some k_ ≠ (.slice lA bM.length lB : Value).ownBlock ∧ some k_ ≠ (.slice iW lC.length iX : Value).ownBlock) (.slice (some ⟨jQ, 0, none⟩) lJ.length p2) UC) := ⟨rS HQ132.out⟩
    have n4_ : aC ((QS.setCell ⟨jQ, (bZ : Int).toNat * 3 + 1, none⟩ (mJ)).heap[aW]? = some (.cells #[.slice eE aZ.length eF, .slice (some oR) aI.length eC] 26 (0, 0))) := ⟨by refine rB ?_; refine dD ?_ (by have h_ := Kd.S_ne eU.1 a6.1 (by decide); intro e_; exact h_ (by rw [e_]; rfl)) _; refine rB ?_; exact a6.1⟩
    have n5_ : aC ((QS.setCell ⟨jQ, (bZ : Int).toNat * 3 + 1, none⟩ (mJ)).heap[bK]? = some (.cells #[.slice none 0 0, .slice none 0 0] 26 (0, 0))) := ⟨by refine rB ?_; refine dD ?_ (by have h_ := Kd.S_ne eU.1 aQ.1 (by decide); intro e_; exact h_ (by rw [e_]; rfl)) _; refine rB ?_; exact aQ.1⟩
    have n6_ : aC ((QS.setCell ⟨jQ, (bZ : Int).toNat * 3 + 1, none⟩ (mJ)).heap[bC]? = some (.cells #[.slice gW dB.length gY, .slice lA bM.length lB] 26 (0, 0))) := ⟨by refine rB ?_; refine dD ?_ (by have h_ := Kd.S_ne eU.1 aV.1 (by decide); intro e_; exact h_ (by rw [e_]; rfl)) _; refine rB ?_; exact aV.1⟩
    have n7_ : aC ((QS.setCell ⟨jQ, (bZ : Int).toNat * 3 + 1, none⟩ (mJ)).heap[EY]? = some (.cells #[.slice iW lC.length iX, .slice (some ⟨jQ, 0, none⟩) lJ.length p2] 26 (0, 0))) := ⟨by refine rB ?_; refine dD ?_ (by have h_ := Kd.S_ne eU.1 jS.1 (by decide); intro e_; exact h_ (by rw [e_]; rfl)) _; refine rB ?_; exact jS.1⟩
    have n8_ : aC (Below w.heap.size w (QS.setCell ⟨jQ, (bZ : Int).toNat * 3 + 1, none⟩ (mJ))) := ⟨by repeat (first | (with_reducible first | exact HB.1 | apply cB | apply bA | apply aY | refine aK ?_ GB82.out | refine aK ?_ j5.1 | refine aK ?_ oI.1 | refine aK ?_ sO.1 | refine aK ?_ Hc.1) | exact HB.1)⟩
    (try clear aH)
    (try clear aD)
    (try clear jN)
    (try clear eU)
    (try clear a6)
    (try clear aQ)
    (try clear aV)
    (try clear jS)
    (try clear HB)
    generalize (QS.setCell ⟨jQ, (bZ : Int).toNat * 3 + 1, none⟩ (mJ)) = aUB at n0_ n1_ n2_ n3_ n4_ n5_ n6_ n7_ n8_ ⊢
    have aH := n0_
    have aD := n1_
    have jN := n2_
    have eU := n3_
    have a6 := n4_
    have aQ := n5_
    have aV := n6_
    have jS := n7_
    have HB := n8_
    clear n0_ n1_ n2_ n3_ n4_ n5_ n6_ n7_ n8_
    have aR4 := cz2 a6
    try go_wp2_with (first | ((with_reducible refine gC 15 ?_); refine cQ (some 78) Tryz.func15 (jH.calls k1 _ _ aZ _ _ aI true _ (pB dT) dS.1 (pB bV) eS.1 A83.out) ?_; rintro aUC hb; replace aH := RB fU hb; replace aD := SB NR hb; replace jN := RB KR hb; replace eU := SB VX hb; replace a6 := bB d3 hb; replace aQ := bB eW hb; replace aV := bB iD hb; replace jS := bB UR hb; replace HB := bS IM hb; clear hb; have aR5 := cz2 jS) | (go_at_call 15; refine KL (args' := #[.agg #[.slice iW lC.length iX, .slice (some ⟨jQ, 0, none⟩) UC.length p2]]) (by first | (rw [show UC.length = lJ.length from (Kd.rX eU.1).1.symm] <;> rfl) | rfl) ?_; (with_reducible refine (jH.calls k1 _ _ lC _ _ UC false _ ?side1 ?side2 ?side3 ?side4 A85.out).mono ?_); (case side1 => exact pC (Kd.bH jN.1).2.2); (case side2 => exact (Kd.bH jN.1).2.1); (case side3 => exact pC (Kd.rX eU.1).2.2); (case side4 => rw [show UC.length = lJ.length from (Kd.rX eU.1).1.symm]; exact (Kd.rX eU.1).2.1); rintro e aUD ⟨rfl, hb⟩; replace aH := RB fU hb; replace aD := SB NR hb; replace jN := RB KR hb; replace eU := SB VX hb; replace a6 := bB d3 hb; replace aQ := bB eW hb; replace aV := bB iD hb; replace jS := bB UR hb; replace HB := bS IM hb; clear hb; have aR6 := nZ1 iL g4; have aR7 := cz2 aV; have aR8 := cz2 aQ))
    refine cT bK 26 #[.slice gW dB.length gY, .slice lA bM.length lB] (qP aQ) Tryz.underlying26 ?_
    exact ⟨_, _, eR, mR aH aQ, mS aD aQ, IM⟩
   ·replace aH := RD aH
    replace aD := SD aD
    replace jN := RD jN
    replace eU := SD eU
    replace mO := RD mO
    replace a6 := BD a6
    replace aQ := BD aQ
    replace aV := BD aV
    replace jS := BD jS
    replace HB := am (aY HB.1)
    refine sT [7] 8 (uA2 jS) (fun hHeld => ?_)
    refine fP eG.Ty eG.Ei (fun HT_ HW_ => ?_)
    generalize Ue.drew = aUE at aH aD jN eU mO a6 aQ aV jS HB hHeld ⊢
    refine pU3 0 2 3 ?_
    refine tK2 1 (some 71) ?_
    refine oN 4 (some 74) fun K hK => ?_
    refine gE Tryz.func39 (jM.calls (fun k_ => some k_ = (.slice AH IY.length AN : Value).ownBlock) (.slice AH IY.length AN) t131 FD w _ (IM) (Kd.nA rfl mO.1) A80.out) ?_
    rintro e QT ⟨mJ, rfl, eH, hb, hkp⟩
    refine ⟨_, rfl, ?_⟩
    replace aD := am (Kd.gX (ok' := fun k_ => some k_ ≠ (.slice gW dB.length gY : Value).ownBlock ∧ some k_ ≠ (.slice iW lC.length iX : Value).ownBlock ∧ some k_ ≠ (.slice FH lJ.length p2 : Value).ownBlock ∧ some k_ ≠ (mJ : Value).ownBlock) (Kd.DJ (aD.1) hkp (fun k_ hk_ hs_ => (hk_.2.2.2) hs_)) (fun k_ hk_ => ⟨hk_.1.1, hk_.1.2.1, hk_.1.2.2.1, fun e_ => Or.elim (eH.1 k_ e_.symm) (fun hs_ => hk_.2.1 hs_) (fun hn_ => Nat.not_le.2 hk_.2.2 hn_)⟩))
    replace a6 := am (eB d3 hkp (fun hs_ => (fun e_ => (Kd.R_ne mO.1 a6.1 (by decide)) e_) hs_))
    replace aQ := am (eB eW hkp (fun hs_ => (fun e_ => (Kd.R_ne mO.1 aQ.1 (by decide)) e_) hs_))
    replace aV := am (eB iD hkp (fun hs_ => (fun e_ => (Kd.R_ne mO.1 aV.1 (by decide)) e_) hs_))
    replace eU := am (Kd.gX (ok' := fun k_ => some k_ ≠ (.slice gW dB.length gY : Value).ownBlock ∧ some k_ ≠ (.slice lA bM.length lB : Value).ownBlock ∧ some k_ ≠ (.slice iW lC.length iX : Value).ownBlock ∧ some k_ ≠ (mJ : Value).ownBlock) (Kd.DJ (eU.1) hkp (fun k_ hk_ hs_ => (hk_.2.2.2) hs_)) (fun k_ hk_ => ⟨hk_.1.1, hk_.1.2.1, hk_.1.2.2.1, fun e_ => Or.elim (eH.1 k_ e_.symm) (fun hs_ => hk_.2.1 hs_) (fun hn_ => Nat.not_le.2 hk_.2.2 hn_)⟩))
    replace jS := am (eB UR hkp (fun hs_ => (fun e_ => (Kd.R_ne mO.1 jS.1 (by decide)) e_) hs_))
    have y5 := am (Kd.aT (ok' := fun k_ => some k_ ≠ (.slice gW dB.length gY : Value).ownBlock ∧ some k_ ≠ (.slice iW lC.length iX : Value).ownBlock) eH (fun k_ hk_ => ⟨Or.elim hk_ (fun hs_ => fun e_ => (((aH.1).1 k_ e_.symm).2) hs_) (fun hn_ => (Kd.fresh' (Kd.R_lt fU) k_ hn_)), Or.elim hk_ (fun hs_ => fun e_ => (((jN.1).1 k_ e_.symm).2) hs_) (fun hn_ => (Kd.fresh' (Kd.R_lt KR) k_ hn_))⟩))
    replace aH := am (Kd.aT (ok' := fun k_ => some k_ ≠ (.slice iW lC.length iX : Value).ownBlock ∧ some k_ ≠ (mJ : Value).ownBlock) (Kd.DI (aH.1) hkp (fun k_ hk_ hs_ => (hk_.2) hs_)) (fun k_ hk_ => ⟨hk_.1.1, fun e_ => Or.elim (eH.1 k_ e_.symm) (fun hs_ => hk_.2.1 hs_) (fun hn_ => Nat.not_le.2 hk_.2.2 hn_)⟩))
    replace jN := am (Kd.aT (ok' := fun k_ => some k_ ≠ (.slice gW dB.length gY : Value).ownBlock ∧ some k_ ≠ (mJ : Value).ownBlock) (Kd.DI (jN.1) hkp (fun k_ hk_ hs_ => (hk_.2) hs_)) (fun k_ hk_ => ⟨hk_.1.1, fun e_ => Or.elim (eH.1 k_ e_.symm) (fun hs_ => hk_.2.1 hs_) (fun hn_ => Nat.not_le.2 hk_.2.2 hn_)⟩))
    replace HB := am hb
    clear mO
    clear hb hkp eH
    have Tf : 0 ≤ (bZ : Int) := oT
    have Tk : (bZ : Int) < ((lJ.length : Int) : Int) := oT
    obtain ⟨jQ, Wq, UE, Bc, gl82, cl82, HG82⟩ := Kd.SL eU.1 (by omega)
    (first | cases UE | (injection UE with ea_ en_ ec_; (first | subst ea_ | (injection ea_ with ea_; subst ea_)); subst ec_; clear en_))
    have GB82 := am Bc
    have GG82 := am HG82
    clear Bc gl82 HG82
    obtain ⟨_, ce82, hcl82, hM82, hcc82, hfr82, _, _⟩ := Kd.EA eU.1 z52 (bZ : Int) Tf Tk
    obtain ⟨ve82_1, ve82_2, rfl, Rn, Ro⟩ := uG hM82
    have Sa : World.cell? _ ⟨jQ, (bZ : Int).toNat * 3, none⟩ = some (.string ((aA lJ bZ).f0)) := hcc82 0 _ rfl
    have Sb : World.cell? _ ⟨jQ, (bZ : Int).toNat * 3 + 1, none⟩ = some (ve82_1) := hcc82 1 _ rfl
    have Sc : World.cell? _ ⟨jQ, (bZ : Int).toNat * 3 + 2, none⟩ = some (ve82_2) := hcc82 2 _ rfl
    have hf82_0 : World.frozen? _ ⟨jQ, (bZ : Int).toNat * 3, none⟩ = false := hfr82 0
    have hf82_1 : World.frozen? _ ⟨jQ, (bZ : Int).toNat * 3 + 1, none⟩ = false := hfr82 1
    have hf82_2 : World.frozen? _ ⟨jQ, (bZ : Int).toNat * 3 + 2, none⟩ = false := hfr82 2
    clear hcl82 hcc82 hfr82 hM82
    replace Tf := eq_true Tf
    replace Tk := eq_true Tk
    have HX159 := am (show Kd.S k52 52 QT w.heap.size (fun k_ => ((fun k_ => some k_ ≠ (.slice gW dB.length gY : Value).ownBlock ∧ some k_ ≠ (.slice lA bM.length lB : Value).ownBlock ∧ some k_ ≠ (.slice iW lC.length iX : Value).ownBlock)) k_ ∧ ¬ ((fun k_ => some k_ = (mJ : Value).ownBlock)) k_) (.slice (some ⟨jQ, 0, none⟩) lJ.length p2) lJ from (by refine rS ?_; exact Kd.gX eU.1 (fun k_ hk => ⟨⟨hk.1, ⟨hk.2.1, hk.2.2.1⟩⟩, fun e_ => hk.2.2.2 e_⟩)))
    obtain ⟨oki159, ce159, hcl159, hM159, hcc159, hfr159, hoki159, hH159⟩ := Kd.EA HX159.out z52 (bZ : Int) (oT) (by have h_ : (bZ : Int) < ((lJ.length : Int) : Int) := oT; first | exact h_ | (have e_ := (Kd.rX eU.1).1; omega) | simpa using h_)
    obtain ⟨ve159_1, ve159_2, rfl, a5O, Iu⟩ := uG hM159
    have HP159 := (Kd.Ac hH159 (oT) (by have h_ : (bZ : Int) < ((lJ.length : Int) : Int) := oT; first | exact h_ | (have e_ := (Kd.rX eU.1).1; omega) | simpa using h_) (seg := [mJ]) (j := 1) (show 2 ≤ 3 from by decide) (x' := (⟨(aA lJ bZ).f0, FD, (aA lJ bZ).f2⟩ : S52)) (DR _ _ _ (⟨(aA lJ bZ).f0, FD, (aA lJ bZ).f2⟩ : S52) (Kd.aT (Kd.nA rfl (Kd.aT (ok' := fun k_ => ((fun k_ => some k_ ≠ (.slice gW dB.length gY : Value).ownBlock ∧ some k_ ≠ (.slice lA bM.length lB : Value).ownBlock ∧ some k_ ≠ (.slice iW lC.length iX : Value).ownBlock)) k_ ∧ k_ ≠ jQ) (Kd.iU (Kd.iU (y5.1) (Kd.nC aD.1) (by decide)) (Kd.nC eU.1) (by decide)) (fun k_ hk => ⟨⟨hk.1.1.1, ⟨hk.1.2, hk.1.1.2⟩⟩, fun e_ => (hk.2) (by rw [e_]; rfl)⟩))) (fun _ h_ => Or.inr (h_))) (Kd.aT Iu (fun _ h_ => Or.inl h_)) (fun k_ e1_ e2_ => (hoki159 k_ (Iu.1 k_ e2_)).1.2 e1_.symm)) (fun _ hk => hk) (fun k_ hk_ => ((Kd.aT (ok' := fun k_ => ((fun k_ => some k_ ≠ (.slice gW dB.length gY : Value).ownBlock ∧ some k_ ≠ (.slice lA bM.length lB : Value).ownBlock ∧ some k_ ≠ (.slice iW lC.length iX : Value).ownBlock)) k_ ∧ k_ ≠ jQ) (Kd.iU (Kd.iU (y5.1) (Kd.nC aD.1) (by decide)) (Kd.nC eU.1) (by decide)) (fun k_ hk => ⟨⟨hk.1.1.1, ⟨hk.1.2, hk.1.1.2⟩⟩, fun e_ => (hk.2) (by rw [e_]; rfl)⟩))).1 k_ hk_.symm)).1
    rw [← Pp.out] at HP159
    have HQ159 := am HP159
    clear hcl159 hcc159 hfr159 hM159 HP159
    refine nK hK (uA2 jS).1 fun hHeld => ?_
    clear hK K
    refine pU2 5 6 ?_
    refine lN 7 none fun K hK => ?_
    refine AC (w1 := (QT.setCell ⟨jQ, (bZ : Int).toNat * 3 + 1, none⟩ (mJ))) (by rfl) rfl ?_ ?_
    skip
    ·obtain ⟨Az_, cz_, ez_⟩ := Kd.cZ y5.1
     subst ez_
     go_simp
     (try rfl)
    refine hK.out _ _ ?_
    clear hK K
    refine dN ?_
    have n0_ : aC (Kd.R Kd.string 9 (QT.setCell ⟨jQ, (bZ : Int).toNat * 3 + 1, none⟩ (mJ)) w.heap.size (fun k_ => some k_ ≠ (.slice iW lC.length iX : Value).ownBlock) (.slice gW dB.length gY) dB) := ⟨by refine rR ?_; exact Kd.aT (Kd.u6 (p := ⟨jQ, (bZ : Int).toNat * 3 + 1, none⟩) (tR aH GG82) (fun _ hk => hk.2) (mJ)) (fun _ hk => hk.1.1)⟩
    have n1_ : aC (Kd.S k52 52 (QT.setCell ⟨jQ, (bZ : Int).toNat * 3 + 1, none⟩ (mJ)) w.heap.size (fun k_ => some k_ ≠ (.slice gW dB.length gY : Value).ownBlock ∧ some k_ ≠ (.slice iW lC.length iX : Value).ownBlock ∧ some k_ ≠ (.slice (some ⟨jQ, 0, none⟩) lJ.length p2 : Value).ownBlock) (.slice lA bM.length lB) bM) := ⟨by refine rS ?_; exact Kd.gX (Kd.Ia (p := ⟨jQ, (bZ : Int).toNat * 3 + 1, none⟩) (Kd.gX aD.1 (fun k_ hk => (⟨hk, fun e_ => hk.2.2.1 (by rw [e_]; rfl)⟩ : _ ∧ k_ ≠ jQ))) (fun _ hk => hk.2) (mJ)) (fun _ hk => ⟨hk.1.1, ⟨hk.1.2.1, hk.1.2.2.1⟩⟩)⟩
    have n2_ : aC (Kd.R Kd.string 9 (QT.setCell ⟨jQ, (bZ : Int).toNat * 3 + 1, none⟩ (mJ)) w.heap.size (fun k_ => some k_ ≠ (.slice gW dB.length gY : Value).ownBlock) (.slice iW lC.length iX) lC) := ⟨by refine rR ?_; exact Kd.aT (Kd.u6 (p := ⟨jQ, (bZ : Int).toNat * 3 + 1, none⟩) (tR jN GG82) (fun _ hk => hk.2) (mJ)) (fun _ hk => hk.1.1)⟩
    have n3_ : aC (Kd.S k52 52 (QT.setCell ⟨jQ, (bZ : Int).toNat * 3 + 1, none⟩ (mJ)) w.heap.size (fun k_ => some k_ ≠ (.slice gW dB.length gY : Value).ownBlock ∧ some k_ ≠ (.slice lA bM.length lB : Value).ownBlock ∧ some k_ ≠ (.slice iW lC.length iX : Value).ownBlock) (.slice (some ⟨jQ, 0, none⟩) lJ.length p2) UC) := ⟨rS HQ159.out⟩
    have n4_ : aC ((QT.setCell ⟨jQ, (bZ : Int).toNat * 3 + 1, none⟩ (mJ)).heap[aW]? = some (.cells #[.slice eE aZ.length eF, .slice (some oR) aI.length eC] 26 (0, 0))) := ⟨by refine rB ?_; refine dD ?_ (by have h_ := Kd.S_ne eU.1 a6.1 (by decide); intro e_; exact h_ (by rw [e_]; rfl)) _; refine rB ?_; exact a6.1⟩
    have n5_ : aC ((QT.setCell ⟨jQ, (bZ : Int).toNat * 3 + 1, none⟩ (mJ)).heap[bK]? = some (.cells #[.slice none 0 0, .slice none 0 0] 26 (0, 0))) := ⟨by refine rB ?_; refine dD ?_ (by have h_ := Kd.S_ne eU.1 aQ.1 (by decide); intro e_; exact h_ (by rw [e_]; rfl)) _; refine rB ?_; exact aQ.1⟩
    have n6_ : aC ((QT.setCell ⟨jQ, (bZ : Int).toNat * 3 + 1, none⟩ (mJ)).heap[bC]? = some (.cells #[.slice gW dB.length gY, .slice lA bM.length lB] 26 (0, 0))) := ⟨by refine rB ?_; refine dD ?_ (by have h_ := Kd.S_ne eU.1 aV.1 (by decide); intro e_; exact h_ (by rw [e_]; rfl)) _; refine rB ?_; exact aV.1⟩
    have n7_ : aC ((QT.setCell ⟨jQ, (bZ : Int).toNat * 3 + 1, none⟩ (mJ)).heap[EY]? = some (.cells #[.slice iW lC.length iX, .slice (some ⟨jQ, 0, none⟩) lJ.length p2] 26 (0, 0))) := ⟨by refine rB ?_; refine dD ?_ (by have h_ := Kd.S_ne eU.1 jS.1 (by decide); intro e_; exact h_ (by rw [e_]; rfl)) _; refine rB ?_; exact jS.1⟩
    have n8_ : aC (Below w.heap.size w (QT.setCell ⟨jQ, (bZ : Int).toNat * 3 + 1, none⟩ (mJ))) := ⟨by repeat (first | (with_reducible first | exact HB.1 | apply cB | apply bA | apply aY | refine aK ?_ GB82.out | refine aK ?_ j5.1 | refine aK ?_ oI.1 | refine aK ?_ sO.1 | refine aK ?_ Hc.1) | exact HB.1)⟩
    (try clear aH)
    (try clear aD)
    (try clear jN)
    (try clear eU)
    (try clear a6)
    (try clear aQ)
    (try clear aV)
    (try clear jS)
    (try clear HB)
    generalize (QT.setCell ⟨jQ, (bZ : Int).toNat * 3 + 1, none⟩ (mJ)) = aUG at n0_ n1_ n2_ n3_ n4_ n5_ n6_ n7_ n8_ ⊢
    have aH := n0_
    have aD := n1_
    have jN := n2_
    have eU := n3_
    have a6 := n4_
    have aQ := n5_
    have aV := n6_
    have jS := n7_
    have HB := n8_
    clear n0_ n1_ n2_ n3_ n4_ n5_ n6_ n7_ n8_
    have aRD := cz2 a6
    try go_wp2_with (first | ((with_reducible refine gC 15 ?_); refine cQ (some 78) Tryz.func15 (jH.calls k1 _ _ aZ _ _ aI false _ (pB dT) dS.1 (pB bV) eS.1 A83.out) ?_; rintro aUH hb; replace aH := RB fU hb; replace aD := SB NR hb; replace jN := RB KR hb; replace eU := SB VX hb; replace a6 := bB d3 hb; replace aQ := bB eW hb; replace aV := bB iD hb; replace jS := bB UR hb; replace HB := bS IM hb; clear hb; have aRE := cz2 jS; have aRF := nZ1 g4 iL; have yp := cz2 aQ))
    refine cT bK 26 #[.slice iW lC.length iX, .slice (some ⟨jQ, 0, none⟩) lJ.length p2] (qP aQ) Tryz.underlying26 ?_
    exact ⟨_, _, eR, mR jN aQ, by refine rS ?_; exact Kd.gX (fS (fS (tS eU aQ))) (fun _ hk => hk.1.2.2), IM⟩
 ·refine cT bK 26 #[.slice gW dB.length gY, .slice lA bM.length lB] (qP aQ) Tryz.underlying26 ?_
  exact ⟨_, _, eR, mR gG aQ, mS fD aQ, fW⟩
 refine cT bK 26 #[.slice none 0 0, .slice none 0 0] ue Tryz.underlying26 ?_
 exact ⟨_, _, eR, by first | exact Kd.sP _ _ _ _ _ | exact Kd.yR _ _ _ _ _ | exact Kd.yT _ _ _ _ _ | exact Kd.yS _ _ _ _ _ | exact Kd.wU _ _ _ _ _, by first | exact Kd.wU _ _ _ _ _ | exact Kd.yR _ _ _ _ _ | exact Kd.yT _ _ _ _ _ | exact Kd.yS _ _ _ _ _ | exact Kd.sP _ _ _ _ _, kO⟩
theorem Ye {xs : List S52} {i : Int} (h0 : 0 ≤ i) (h1 : i < (xs.length : Int)) (x : S52) : aA (xs.set i.toNat x) i = x := by
 unfold aA
 rw [List.getD_eq_getElem?_getD, List.getElem?_set_self (by omega)]
 rfl
def uR (w : World) (g c n : Nat) (cur : List ByteArray) : Prop := ∃ cs : Array Value, w.heap[g]? = some (.cells cs 9 (0, 0)) ∧ cs.size = c ∧ cs.toList.take n = cur.map Value.string
theorem uR.cell {w : World} {g c n : Nat} {cur : List ByteArray} (h : uR w g c n cur) (hl : cur.length = n) {j : Nat} (hj : j < cur.length) : w.cell? ⟨g, j, none⟩ = some (.string cur[j]) := by
 obtain ⟨cs, h1, _, h3⟩ := h
 rw [bP h1 j, ← Array.getElem?_toList]
 have e : (cs.toList.take n)[j]? = (cur.map Value.string)[j]? := by rw [h3]
 rw [List.getElem?_take, if_pos (by omega)] at e
 rw [e, List.getElem?_map, List.getElem?_eq_getElem hj]; rfl
theorem uR.frozen {w : World} {g c n : Nat} {cur : List ByteArray} (h : uR w g c n cur) (j : Nat) : w.frozen? ⟨g, j, none⟩ = false := by
 obtain ⟨cs, h1, _, _⟩ := h
 exact gF h1 j
theorem uR.set_ {w : World} {g c n i : Nat} {cur : List ByteArray} (h : uR w g c n cur) (y : ByteArray) : uR (w.setCell ⟨g, i, none⟩ (.string y)) g c n (cur.set i y) := by
 obtain ⟨cs, h1, h2, h3⟩ := h
 refine ⟨cs.setIfInBounds i (.string y), R8 h1 i _, by simpa using h2, ?_⟩
 rw [Array.toList_setIfInBounds, List.take_set, h3, List.map_set]
theorem uR.below {w w' : World} {g c n : Nat} {cur : List ByteArray} (h : uR w g c n cur) (hb : Below w.heap.size w w') : uR w' g c n cur := by
 obtain ⟨cs, h1, h2⟩ := h
 exact ⟨cs, aX h1 hb, h2⟩
theorem uR.R_ {w w' : World} {base g c n i : Nat} {P : Nat → Prop} {cur : List ByteArray} (h : uR w g c n cur) (hl : cur.length = n) (hi : i ≤ n) (hn : n ≤ c) (hm : c ≤ maxLen) (hP : P g) (hb : base ≤ g)
  (hw : ∃ cs' : Array Value, w'.heap[g]? = some (.cells cs' 9 (0, 0)) ∧ cs'.size = c ∧ ∀ cs : Array Value, w.heap[g]? = some (.cells cs 9 (0, 0)) → cs'.toList.take i = cs.toList.take i) :
  Kd.R Kd.string 9 w' base P (.slice (some ⟨g, 0, none⟩) i c) (cur.take i) := by
 obtain ⟨cs, h1, h2, h3⟩ := h
 obtain ⟨cs', h4, h5, h6⟩ := hw
 have ud : (cur.take i).length = i := by rw [List.length_take]; omega
 have e : cs'.toList.take i = (cur.take i).map Value.string := by
  rw [h6 cs h1, List.map_take, ← h3, List.take_take, Nat.min_eq_left hi]
 refine ⟨fun k hk => by (have e : g = k := by simpa [Value.ownBlock] using hk); subst e; exact hP, (cur.take i).map Value.string, ⟨?_, ?_⟩, ?_, ?_⟩
 ·rw [List.length_map]; show _ = _ * 1; omega
 ·refine .inr ⟨g, c, cs', by rw [ud], hb, h4, by omega, hm, ?_, ?_⟩
  ·show _ = _ * 1; omega
  rw [ud]; show List.take (i * 1) _ = _; rw [Nat.mul_one]; exact e
 ·rw [List.length_map]; show _ = _ * 1; omega
 intro j p hj
 have hjl : j < (cur.take i).length := (List.getElem?_eq_some_iff.1 hj).1
 show (((cur.take i).map Value.string).drop (j * 1)).take 1 = [Value.string p]
 rw [Nat.mul_one, List.drop_eq_getElem_cons (by rw [List.length_map]; exact hjl), List.take_succ_cons, List.take_zero, List.getElem_map]
 rw [List.getElem?_eq_getElem hjl] at hj
 rw [Option.some.inj hj]
def au (g : Nat) (lb : Array Value) (p : ByteArray → Bool) (w0 w : World) (S : Nat → Prop) : Prop :=
 ∀ (W : World) (s : ByteArray), Below w0.heap.size w0 W → Kept w W S → Calls Tryz.prog g (#[.string s] ++ lb) W fun e w' => e = .returned (.bool (p s)) ∧ Below W.heap.size W w'
theorem Q6 {p : ByteArray → Bool} : ∀ {l : List ByteArray} {i : Nat}, idxP p l i = -1 → l.filter (fun x => !p x) = l
 | [], _, _ => rfl
 | x :: xs, i, h => by
  unfold idxP at h
  cases hp : p x with
  | true => rw [if_pos hp] at h; omega
  | false => rw [if_neg (by simp [hp])] at h; rw [List.filter_cons_of_pos (by simp [hp]), Q6 h]
theorem VS {p : ByteArray → Bool} : ∀ {l : List ByteArray} {i : Nat}, idxP p l i ≠ -1 → ∃ k, idxP p l i = ((i + k : Nat) : Int) ∧ k < l.length ∧ (l.take (k + 1)).filter (fun x => !p x) = l.take k
 | [], _, h => absurd rfl h
 | x :: xs, i, h => by
  unfold idxP at h ⊢
  cases hp : p x with
  | true => rw [if_pos rfl]; exact ⟨0, by simp, by simp, by simp [hp]⟩
  | false =>
   rw [hp, if_neg (by simp)] at h
   rw [if_neg (by simp)]
   obtain ⟨k, e, hk, hf⟩ := VS h
   refine ⟨k + 1, by rw [e]; congr 1; omega, by simp; omega, ?_⟩
   rw [List.take_succ_cons, List.take_succ_cons, List.filter_cons_of_pos (by simp [hp]), hf]
theorem Dk : ∀ w, (zeroValue 9).run Tryz.prog w = .ok (.string ByteArray.empty) w := Tryz.zeroValue9
set_option maxHeartbeats 4000000 in
theorem TB (g : Nat) (lb : Array Value) (eg : ∀ args w, (callFunc g args).run Tryz.prog w = .ok (.enter g args) w) (p : ByteArray → Bool) (P : Nat → Prop) (A : Option Addr) (c : Nat) (l : List ByteArray) (w0 w : World) (hB : Below w0.heap.size w0 w)
  (h : Kd.R Kd.string 9 w w0.heap.size P (.slice A l.length c) l) (hp : au g lb p w0 w P) :
  Calls Tryz.prog 43 #[.slice A l.length c, .func (.func g) #[] lb] w fun e w' => e = .returned (.slice A (l.filter (fun x => !p x)).length c) ∧ Kd.R Kd.string 9 w' w0.heap.size P (.slice A (l.filter (fun x => !p x)).length c) (l.filter (fun x => !p x)) ∧ Below w0.heap.size w0 w' ∧ Kept w w' P := by
 have hrd := (Kd.bH h).2.2
 have hbig := V3 hrd
 have HI := am (KM g lb eg p A c l w hrd (fun W s hb => (hp W s (jB hB hb) (Kept.of_below hb P)).mono fun e w' q => ⟨q.1, xH hb hb.size q.2⟩))
 by_cases hn : idxP p l 0 = -1
 ·have hf := Q6 hn
  rw [hn] at HI
  have HR := am h
  have HB := am hB
  rw [hf]
  clear h hB hp hrd hf hn
  go_enter Tryz.func43, Tryz.ntmps43
  go_wp2_with ((go_at_call 70; refine HI.out.mono ?_; rintro e w' ⟨rfl, hb'⟩))
  go_ret
  exact ⟨rfl, Kd.jA HR.out hb', jB HB.1 hb', Kept.of_below hb' P⟩
 obtain ⟨k0, e0, hk0, hf0⟩ := VS hn
 rw [Nat.zero_add] at e0
 obtain ⟨h0, inner, ho, hr⟩ := h
 obtain ⟨hil, ho⟩ := ho
 rcases ho with ⟨_, ho⟩ | ⟨gb, cap, cur, hv, hbase, hheap, hncap, hcapm, hcur, htake⟩
 ·omega
 injection hv with ha _ hc
 subst ha; subst hc
 have hP : P gb := h0 gb rfl
 have hrow : uR w gb c l.length l := by
  refine ⟨cur, hheap, by rw [hcur]; exact Nat.mul_one _, ?_⟩
  have ht : cur.toList.take l.length = inner := by rw [← htake]; congr 1; exact (Nat.mul_one _).symm
  rw [ht]
  have hil2 : inner.length = l.length := by rw [hil]; exact Nat.mul_one _
  refine List.ext_getElem (by rw [List.length_map]; exact hil2) fun j h1 h2 => ?_
  have hM := hr.2 j (l[j]'(by omega)) (List.getElem?_eq_getElem (by omega))
  have hM2 : (inner.drop (j * 1)).take 1 = [Value.string (l[j]'(by omega))] := hM
  rw [Nat.mul_one, List.drop_eq_getElem_cons h1, List.take_succ_cons, List.take_zero] at hM2
  rw [List.getElem_map]
  exact (List.cons.inj hM2).1
 have hne1 : ((k0 : Int) == -1) = false := beq_eq_false_iff_ne.2 (by omega)
 have HROW := am hrow
 have HP := am hp
 have HB := am hB
 have HG := am hbase
 have HPg := am hP
 have HCM := am hcapm
 have HF0 := am hf0
 have HNC := am hncap
 rw [e0] at HI
 clear hn e0 h0 hr hil hheap hcur htake hrow hp hB hbase hP hcapm hf0 hrd hncap
 go_enter Tryz.func43, Tryz.ntmps43
 go_wp2_with ((go_at_call 70; refine HI.out.mono ?_; rintro e w1 ⟨rfl, hb1⟩; have HB1 := am hb1; clear hb1))
 go_loopg [5, 6, 7] l.length (fun gg s5 s6 _ wr => ∃ (i j : Nat) (cu : List ByteArray), s5 = .int .i64 i ∧ s6 = .int .i64 j ∧ i < j ∧ j ≤ l.length ∧ l.length - j ≤ gg ∧ cu.length = l.length ∧ aC (uR wr gb c l.length cu) ∧ aC (Kept w wr P) ∧ aC (Below w0.heap.size w0 wr) ∧ aC (cu.take i = (l.take j).filter (fun x => !p x)) ∧ aC (cu.drop j = l.drop j))
 case atStart => exact ⟨k0, k0 + 1, l, rfl, by go_num, by omega, by omega, by omega, rfl, ⟨uR.below HROW.1 HB1.out⟩, ⟨Kept.of_below HB1.out P⟩, ⟨jB HB.1 HB1.out⟩, ⟨HF0.out.symm⟩, ⟨rfl⟩⟩
 obtain ⟨i, j, cu, rfl, rfl, hij, hjl, hgg, hcl, RR, KK, BB, T1, T2⟩ := hrel
 by_cases hlt : j < l.length
 ·have hltz : (j : Int) < (l.length : Int) := by omega
  have hx := uR.cell RR.out hcl (j := j) (by omega)
  have hcy : cu[j]'(by omega) = l[j] := by
   have e := T2.out
   rw [List.drop_eq_getElem_cons (by omega), List.drop_eq_getElem_cons hlt] at e
   exact (List.cons.inj e).1
  rw [hcy] at hx
  have hci := uR.cell RR.out hcl (j := i) (by omega)
  have hfi := uR.frozen RR.out i
  have hcall := HP.out wr l[j] BB.out KK.out
  have HY := am (show l[j]? = some l[j] from List.getElem?_eq_getElem hlt)
  generalize l[j] = y at hx hcall HY
  generalize cu[i]'_ = old at hci
  clear hcy
  have hT2 : aC (cu.drop (j + 1) = l.drop (j + 1)) := ⟨by rw [← List.drop_drop, ← List.drop_drop, T2.out]⟩
  have hYs : aC (l.take (j + 1) = l.take j ++ [y]) := ⟨by rw [List.take_add_one, HY.out]; rfl⟩
  cases hq : p y with
  | false =>
   rw [hq] at hcall
   have HQ := am hq
   clear hq
   go_wp2_with ((go_at_fn g; refine hcall.mono ?_; rintro e w2 ⟨rfl, hb2⟩; have HB2 := am hb2; have hci2 := (hb2.cell (World.block_lt_of_cell? _ _ hci)).trans hci; have hfi2 := uR.frozen (uR.below RR.out hb2) i; clear hb2))
   go_roundg (l.length - (j + 1))
   case measure => omega
   case rel =>
    refine ⟨i + 1, j + 1, cu.set i y, by go_num, by go_num, by omega, by omega, Nat.le_refl _, by rw [List.length_set]; exact hcl, ⟨uR.set_ (uR.below RR.out HB2.out) y⟩, ⟨Kept.setCell (Kept.below KK.out HB2.out) (Or.inl HPg.out) _⟩, ⟨aK (jB BB.out HB2.out) HG.out⟩, ⟨?_⟩, ⟨?_⟩⟩
    ·rw [hYs.out, List.filter_append, ← T1.out, List.filter_cons_of_pos (by simp [HQ.out]), List.filter_nil, List.take_set, List.take_succ_eq_append_getElem (by omega), List.set_append_right _ _ (by rw [List.length_take]; omega), List.length_take, Nat.min_eq_left (by omega), Nat.sub_self, List.set_cons_zero]
    ·rw [List.drop_set_of_lt (by omega)]; exact hT2.out
  | true =>
   rw [hq] at hcall
   have HQ := am hq
   clear hq
   go_wp2_with ((go_at_fn g; refine hcall.mono ?_; rintro e w2 ⟨rfl, hb2⟩; have HB2 := am hb2; clear hb2))
   go_roundg (l.length - (j + 1))
   case measure => omega
   case rel =>
    refine ⟨i, j + 1, cu, rfl, by go_num, by omega, by omega, Nat.le_refl _, hcl, ⟨uR.below RR.out HB2.out⟩, ⟨Kept.below KK.out HB2.out⟩, ⟨jB BB.out HB2.out⟩, ⟨?_⟩, ⟨hT2.out⟩⟩
    rw [hYs.out, List.filter_append, ← T1.out, List.filter_cons_of_neg (by simp [HQ.out]), List.filter_nil, List.append_nil]
 have hje : j = l.length := by omega
 subst hje
 have hltz : ¬ (l.length : Int) < (l.length : Int) := by omega
 have hfil : cu.take i = l.filter (fun x => !p x) := by rw [T1.out, List.take_length]
 have hfl : (l.filter (fun x => !p x)).length = i := by rw [← hfil, List.length_take]; omega
 obtain ⟨cs, H4, MA, hc3⟩ := RR.out
 have hncap := HNC.out
 have hclr : ∀ ty, (Builtin.clear_ #[23] ty #[.slice (some ⟨gb, i, none⟩) (l.length - i) (c - i)]).run Tryz.prog wr = .ok (.tuple #[]) (wr.setCells gb i (List.replicate (l.length - i) (.string ByteArray.empty))) := fun ty =>
  Lib.run_clear_slice wr _ _ ty _ Tryz.underlying23 Dk rfl rfl gb i _ _ (by omega) (fun t ht => by rw [bP H4, Array.getElem?_eq_getElem (by omega)]; rfl) (fun t ht => gF H4 _)
 obtain ⟨cs', Xg, Fk, hs3⟩ := yI (e := 9) (List.replicate (l.length - i) (.string ByteArray.empty)) i wr cs H4 (by rw [List.length_replicate, MA]; omega)
 obtain ⟨W2, hW2⟩ : ∃ W2, W2 = wr.setCells gb i (List.replicate (l.length - i) (.string ByteArray.empty)) := ⟨_, rfl⟩
 rw [← hW2] at Xg
 have hR := uR.R_ (w' := W2) RR.out hcl (i := i) (by omega) hncap HCM.1 HPg.out HG.out ⟨cs', Xg, by rw [Fk, MA], fun cs2 h2 => by
  have e2 : cs2 = cs := by rw [H4] at h2; injection h2 with h2; injection h2 with h2 _ _; exact h2.symm
  subst e2
  rw [hs3, List.append_assoc, List.take_append_of_le_length (by rw [List.length_take, Array.length_toList]; omega), List.take_take, Nat.min_self]⟩
 rw [hfil] at hR
 have hK : Kept wr W2 P := by
  rw [hW2]
  exact ⟨by rw [(q9 gb _ _ _).2.2.2]; exact Nat.le_refl _, fun k hk hne => wI _ _ _ (fun e => hne (e ▸ HPg.out))⟩
 have hBe : Below w0.heap.size w0 W2 := by
  have q := q9 gb (List.replicate (l.length - i) (.string ByteArray.empty)) i wr
  rw [← hW2] at q
  have hg := HG.out
  exact ⟨by rw [q.1]; exact BB.out.os, by rw [q.2.1]; exact BB.out.tape, by rw [q.2.2.1]; exact BB.out.output, Nat.le_trans BB.out.size hK.1, fun k hk => by
   rw [hW2, wI _ _ _ (by omega)]; exact BB.out.block k hk⟩
 have B0 := am hR
 have HK2 := am (Kept.Kb KK.out hK (fun k hk => Or.inl hk))
 have HB2 := am hBe
 have HW2 : Hid (W2 = wr.setCells gb i (List.replicate (l.length - i) (.string ByteArray.empty))) := hW2
 have hic : i ≤ c := by omega
 have hil : i ≤ l.length := by omega
 have HFL := am hfl
 have hci3 : ¬ c = i := by omega
 have hci4 : ¬ i = c := by omega
 have hci5 : (c = i) = False := eq_false hci3
 clear hR hK hBe hW2 Xg Fk hs3 H4 MA hc3 hfil hfl hncap
 go_wp2
 go_ret
 rw [← HW2.out, HFL.out]
 exact ⟨rfl, B0.1, HB2.out, HK2.out⟩
theorem Wd {W : World} {base g n cap : Nat} {P okr : Nat → Prop} {xs : List S52} {vn : Value} {r : List ByteArray} (h : Kd.S k52 52 W base P (.slice (some ⟨g, 0, none⟩) n cap) xs) (i : Int) (h0 : 0 ≤ i) (h1 : i < n) (hr : Kd.R Kd.string 9 W base okr vn r) (hn : ∀ k, vn.ownBlock = some k → ¬ P k) (hP : P g) :
  Kd.S k52 52 (W.setCell ⟨g, i.toNat * 3 + 2, none⟩ vn) base (fun k => P k ∨ some k = vn.ownBlock) (.slice (some ⟨g, 0, none⟩) n cap) (xs.set i.toNat ⟨(aA xs i).f0, (aA xs i).f1, r⟩) := by
 obtain ⟨oki, c, hcl, hM, hc, hf, hoki, hH⟩ := Kd.EA h z52 i h0 h1
 obtain ⟨v1, v2, rfl, g1, g2⟩ := uG hM
 exact (Kd.Ac (ok := fun k => P k ∨ some k = vn.ownBlock) (okg := fun k => some k = vn.ownBlock) (Kd.Ot hH (fun k hk => ⟨Or.inl hk, fun e => hn k e.symm hk⟩)) h0 h1 (seg := [vn]) (j := 2) (x' := ⟨(aA xs i).f0, (aA xs i).f1, r⟩) (by show 2 + 1 ≤ 3; omega) (okp := fun k => oki k ∨ some k = vn.ownBlock) (DR _ _ _ ⟨(aA xs i).f0, (aA xs i).f1, r⟩ (Kd.aT g1 (fun k hk => Or.inl hk)) (Kd.aT (Kd.nA rfl hr) (fun k hk => Or.inr hk)) (fun k e1 e2 => hn k e2 (hoki k (g1.1 k e1)).1)) (fun k hk => hk) (fun k hk => ⟨Or.inr hk, fun e => hn k hk.symm (e ▸ hP)⟩)).1
theorem Vz {W : World} {base g n cap : Nat} {P : Nat → Prop} {xs : List S52} (h : Kd.S k52 52 W base P (.slice (some ⟨g, 0, none⟩) n cap) xs) (i : Int) (h0 : 0 ≤ i) (h1 : i < n) :
  (∃ A c, W.cell? ⟨g, i.toNat * 3 + 2, none⟩ = some (.slice A (aA xs i).f2.length c)) ∧ W.frozen? ⟨g, i.toNat * 3 + 2, none⟩ = false := by
 obtain ⟨oki, c, hcl, hM, hc, hf, hoki, hH⟩ := Kd.EA h z52 i h0 h1
 obtain ⟨v1, v2, rfl, g1, g2⟩ := uG hM
 obtain ⟨A1, c1, e1⟩ := Kd.cZ g2
 subst e1
 exact ⟨⟨A1, c1, hc 2 _ rfl⟩, hf 2⟩
theorem yg {W : World} {base g n cap : Nat} {P : Nat → Prop} {xs : List S52} (h : Kd.S k52 52 W base P (.slice (some ⟨g, 0, none⟩) n cap) xs) (i : Int) (h0 : 0 ≤ i) (h1 : i < n) :
  ∃ (A1 : Option Addr) (c1 : Nat) (P1 : Nat → Prop), W.cell? ⟨g, i.toNat * 3 + 1, none⟩ = some (.slice A1 (aA xs i).f1.length c1) ∧ Kd.R Kd.string 9 W base P1 (.slice A1 (aA xs i).f1.length c1) (aA xs i).f1 ∧ (∀ k, P1 k → P k ∧ k ≠ g ∧ some k = (.slice A1 (aA xs i).f1.length c1 : Value).ownBlock) ∧
   ∀ (W2 : World) (r : List ByteArray) (m : Nat) (okr : Nat → Prop), Kept W W2 P1 → Kd.R Kd.string 9 W2 base okr (.slice A1 m c1) r → Kd.S k52 52 (W2.setCell ⟨g, i.toNat * 3 + 1, none⟩ (.slice A1 m c1)) base P (.slice (some ⟨g, 0, none⟩) n cap) (xs.set i.toNat ⟨(aA xs i).f0, r, (aA xs i).f2⟩) := by
 obtain ⟨oki, c, hcl, hM, hc, hf, hoki, hH⟩ := Kd.EA h z52 i h0 h1
 obtain ⟨v1, v2, rfl, g1, g2⟩ := uG hM
 have hs := Sj hM
 obtain ⟨A1, c1, e1⟩ := Kd.cZ g1
 subst e1
 refine ⟨A1, c1, fun k => some k = (.slice A1 (aA xs i).f1.length c1 : Value).ownBlock, hc 1 _ rfl, Kd.nA rfl g1, fun k hk => ⟨(hoki k (g1.1 k hk.symm)).1, (hoki k (g1.1 k hk.symm)).2, hk⟩, fun W2 r m okr hk hr => ?_⟩
 have hob : (.slice A1 m c1 : Value).ownBlock = (.slice A1 (aA xs i).f1.length c1 : Value).ownBlock := by cases A1 <;> rfl
 have hH2 := Kd.il hH hk (fun k _ hn hp => hn (g1.1 k hp.symm))
 exact (Kd.jw hH2 h0 h1 (seg := [.slice A1 m c1]) (j := 1) (x' := ⟨(aA xs i).f0, r, (aA xs i).f2⟩) (by show 1 + 1 ≤ 3; omega) (okp := oki) (DR _ _ _ ⟨(aA xs i).f0, r, (aA xs i).f2⟩ (Kd.aT (Kd.nA rfl hr) (fun k hp => g1.1 k (hob.symm.trans hp.symm))) (Kd.aT (Kd.C8 (Kd.nA rfl g2) hk (fun k h2 hp => hs k hp.symm h2.symm)) (fun k hp => g2.1 k hp.symm)) (fun k e1 => hs k (hob.symm.trans e1))) (fun _ hk => hk)).1
theorem BkS.needs {w0 W : World} {lo hi lo2 dv g n cap : Nat} {v0 vn : Value} {l0 r : List ByteArray} {xs : List S52} (h : BkS w0 W lo hi v0 (.slice (some ⟨g, 0, none⟩) n cap) l0 xs) (hv : RwS w0 W lo2 dv vn r) (hle : hi ≤ lo2) (hh : hi ≤ dv) (i : Int) (h0 : 0 ≤ i) (h1 : i < n) :
  BkS w0 (W.setCell ⟨g, i.toNat * 3 + 2, none⟩ vn) lo dv v0 (.slice (some ⟨g, 0, none⟩) n cap) l0 (xs.set i.toNat ⟨(aA xs i).f0, (aA xs i).f1, r⟩) := by
 have hg := (Kd.S_R h.2).1 g rfl
 have hk : Kept W (W.setCell ⟨g, i.toNat * 3 + 2, none⟩ vn) (fun k => k = g) := Kept.setCell (p := ⟨g, i.toNat * 3 + 2, none⟩) (Kept.refl W (fun k => k = g)) (Or.inl rfl) vn
 refine ⟨Kd.aT (Kd.C8 (Kd.nA rfl h.1) hk (fun k e e2 => hg.2 (by rw [← e2]; exact e))) (fun k e => ?_), Kd.gX (Wd h.2 i h0 h1 hv (fun k e e2 => ?_) hg) (fun k e => ?_)⟩
 ·have := h.1.1 k e.symm; omega
 ·have := hv.1 k e; omega
 rcases e with e | e
 ·exact ⟨⟨e.1.1, by omega⟩, e.2⟩
 have q := hv.1 k e.symm
 refine ⟨⟨by have := hg.1; omega, q.2⟩, fun e2 => ?_⟩
 have := h.1.1 k e2.symm; omega
theorem BkS.has {w0 W : World} {lo hi g n cap : Nat} {v0 : Value} {l0 : List ByteArray} {xs : List S52} (h : BkS w0 W lo hi v0 (.slice (some ⟨g, 0, none⟩) n cap) l0 xs) (i : Int) (h0 : 0 ≤ i) (h1 : i < n) :
  ∃ (A1 : Option Addr) (c1 : Nat) (P1 : Nat → Prop), W.cell? ⟨g, i.toNat * 3 + 1, none⟩ = some (.slice A1 (aA xs i).f1.length c1) ∧ Kd.R Kd.string 9 W w0.heap.size P1 (.slice A1 (aA xs i).f1.length c1) (aA xs i).f1 ∧ (∀ k, P1 k → (lo ≤ k ∧ k < hi) ∧ k ≠ g ∧ some k = (.slice A1 (aA xs i).f1.length c1 : Value).ownBlock) ∧
   ∀ (W2 : World) (r : List ByteArray) (m : Nat) (okr : Nat → Prop), Kept W W2 P1 → Kd.R Kd.string 9 W2 w0.heap.size okr (.slice A1 m c1) r → BkS w0 (W2.setCell ⟨g, i.toNat * 3 + 1, none⟩ (.slice A1 m c1)) lo hi v0 (.slice (some ⟨g, 0, none⟩) n cap) l0 (xs.set i.toNat ⟨(aA xs i).f0, r, (aA xs i).f2⟩) := by
 have hg := (Kd.S_R h.2).1 g rfl
 obtain ⟨A1, c1, P1, e1, e2, e3, e4⟩ := yg h.2 i h0 h1
 refine ⟨A1, c1, P1, e1, e2, fun k hk => ⟨(e3 k hk).1.1, (e3 k hk).2⟩, fun W2 r m okr hk hr => ⟨?_, e4 W2 r m okr hk hr⟩⟩
 have hk2 : Kept W2 (W2.setCell ⟨g, i.toNat * 3 + 1, none⟩ (.slice A1 m c1)) (fun k => k = g) := Kept.setCell (p := ⟨g, i.toNat * 3 + 1, none⟩) (Kept.refl W2 (fun k => k = g)) (Or.inl rfl) _
 exact Kd.aT (Kd.C8 (Kd.C8 (Kd.nA rfl h.1) hk (fun k e e5 => (e3 k e5).1.2 e)) hk2 (fun k e e2 => hg.2 (by rw [← e2]; exact e))) (fun k e => h.1.1 k e.symm)
theorem BkS.bq {w0 W : World} {lo hi g n cap : Nat} {v0 : Value} {l0 : List ByteArray} {xs : List S52} (h : BkS w0 W lo hi v0 (.slice (some ⟨g, 0, none⟩) n cap) l0 xs) (i : Int) (h0 : 0 ≤ i) (h1 : i < n) :
  (∃ A c, W.cell? ⟨g, i.toNat * 3 + 2, none⟩ = some (.slice A (aA xs i).f2.length c)) ∧ W.frozen? ⟨g, i.toNat * 3 + 2, none⟩ = false ∧ W.frozen? ⟨g, i.toNat * 3 + 1, none⟩ = false := by
 obtain ⟨e1, e2⟩ := Vz h.2 i h0 h1
 obtain ⟨oki, c, hcl, hM, hc, hf, hoki, hH⟩ := Kd.EA h.2 z52 i h0 h1
 exact ⟨e1, e2, hf 1⟩
theorem Md (s : ByteArray) (gb : Nat) (A1 : Option Addr) (c1 : Nat) (l1 : List ByteArray) (W : World) (H4 : l1.length ≤ c1) (hcell : W.cell? ⟨gb, 0, none⟩ = some (.slice A1 l1.length c1)) (H5 : Kd.C Kd.string W A1 l1.length l1) :
  Calls Tryz.prog 44 #[.string s, .pointer (some ⟨gb, 0, none⟩)] W fun e w' => e = .returned (.bool (!hasS l1 s)) ∧ kX W w' := by
 have HH := am H5
 have KY := am H4
 have HK := am (IE l1 s (V3 H5))
 clear H5 H4
 generalize hasS l1 s = b at HK
 go_enter Tryz.func44, Tryz.ntmps44
 go_wp2_with ((go_at_call 45; refine (bJ.calls (l1.length + 1) A1 c1 l1 s b _ ?s1 KY.1 HK.out).mono ?_; (case s1 => repeat (first | exact HH.1 | (with_reducible refine Kd.nW ?_ _) | (with_reducible refine Kd.nX ?_ _) | (with_reducible refine Kd.pO ?_))); rintro e w' ⟨rfl, ⟨nd, rfl⟩⟩))
 go_ret
 exact ⟨rfl, iB⟩
theorem Mf {w0 w : World} {S : Nat → Prop} {gb : Nat} {A1 : Option Addr} {c1 : Nat} {l1 : List ByteArray} {t : Nat} (H4 : l1.length ≤ c1) (hb : w.heap[gb]? = some (.cells #[.slice A1 l1.length c1] t (0, 0))) (hS : ¬ S gb) (H5 : Kd.C Kd.string w0 A1 l1.length l1) : au 44 #[.pointer (some ⟨gb, 0, none⟩)] (fun s => !hasS l1 s) w0 w S := by
 intro W s hB hK
 refine (Md s gb A1 c1 l1 W H4 ((bP (eB hb hK hS) 0).trans rfl) (Kd.aU H5 hB)).mono fun e w' q => ?_
 obtain ⟨he, nd, hd⟩ := q
 exact ⟨he, hd ▸ bA (Below.refl _ _) nd⟩
def qO.f (k : Nat) (l0 : List ByteArray) (l1 : List S52) (a1 : ByteArray) (l2 : List ByteArray) : Option (List ByteArray × List S52 × Int) :=
 (aM.f k l0 l1).bind fun ok => if ok = true then (dM.f k l0 l1).bind fun c => (gH.f l0 l1 a1).bind fun i => if i < 0 then some (c.1, c.2, 3) else if i < (l1.length : Int) ∧ i < (c.2.length : Int) then (iC.f k l2 (aA l1 i).f2).bind fun q => if q = true then (dW.f l2).bind fun nd => some (c.1, c.2.set i.toNat ⟨(aA c.2 i).f0, (aA c.2 i).f1.filter (fun s => !(!hasS l2 s)), nd⟩, 0) else some (c.1, c.2, 2) else none else some ([], [], 1)
theorem qO.calls (k : Nat) (eE : Option Addr) (eF : Nat) (l0 : List ByteArray) (eV : Option Addr) (eC : Nat) (l1 : List S52) (a1 : ByteArray) (A2 : Option Addr) (c2 : Nat) (l2 : List ByteArray) (r1 : List ByteArray) (r2 : List S52) (r3 : Int) (w : World) (gP : Kd.C Kd.string w eE l0.length l0) (gN : l0.length ≤ eF) (gK : Kd.C k52 w eV l1.length l1) (gO : l1.length ≤ eC) (Q7 : Kd.C Kd.string w A2 l2.length l2) (MA : l2.length ≤ c2) (h : qO.f k l0 l1 a1 l2 = some (r1, r2, r3)) :
  Calls Tryz.prog 9 #[.agg #[.slice eE l0.length eF, .slice eV l1.length eC], .string a1, .slice A2 l2.length c2] w fun e w' => ∃ v0_ v1_ : Value, e = .returned (.tuple #[.agg #[v0_, v1_], .int .i64 r3]) ∧ Kd.R Kd.string 9 w' w.heap.size (fun _ => True) v0_ r1 ∧ Kd.S k52 52 w' w.heap.size (fun k_ => some k_ ≠ (v0_ : Value).ownBlock) v1_ r2 ∧ Below w.heap.size w w' := by
 have hu31 := Tryz.underlying26
 have hu56 := Tryz.underlying52
 obtain ⟨dT, dS⟩ := mZ2 gP gN
 obtain ⟨bV, eS⟩ := mZ2 gK gO
 obtain ⟨B0, yN⟩ := mZ2 Q7 MA
 clear gP gN gK gO Q7 MA
 have HB := am (Below.refl w.heap.size w); have NN := am trivial
 unfold qO.f at h
 have H := h
 clear h
 obtain ⟨ok, D1, H⟩ := bd H
 by_cases c1 : ok = false
 ·subst c1
  rw [if_neg (by simp)] at H
  obtain ⟨rfl, rfl, rfl⟩ := sZ3 H
  repeat clear H
  go_enter Tryz.func9, Tryz.ntmps9
  go_wp2_with (first | ((with_reducible refine gD 3 ?_); refine bX 3 #[.slice eE l0.length eF, .slice eV l1.length eC] 26 ?_; intro sJ hg_ W1 hbox hb; have hk_ : Kept w W1 (fun _ => False) := Kept.noth hb; replace NN := nn NN (show w.heap.size ≤ W1.heap.size from hk_.1); have Vf := am (show w.heap.size ≤ sJ from Nat.le_trans HB.1.size (Nat.le_of_eq hg_.symm)); replace NN := nn NN (show w.heap.size ≤ sJ from Nat.le_of_eq hg_.symm); replace NN := nn NN (show sJ < W1.heap.size from fO hbox); replace HB := bS HB.1 hb; have iH := am hbox; clear hb hbox hg_ hk_; (try clear Z3); have Z3 := cz2 iH) | ((with_reducible refine gD 5 ?_); refine bX 5 #[.slice A2 l2.length c2] 23 ?_; intro FG hg_ W2 hbox hb; have hk_ : Kept W1 W2 (fun _ => False) := Kept.noth hb; replace NN := nn NN (show W1.heap.size ≤ W2.heap.size from hk_.1); have GE5 := am (show w.heap.size ≤ FG from Nat.le_trans HB.1.size (Nat.le_of_eq hg_.symm)); replace NN := nn NN (show W1.heap.size ≤ FG from Nat.le_of_eq hg_.symm); replace NN := nn NN (show FG < W2.heap.size from fO hbox); replace iH := kB iH hk_; replace HB := bS HB.1 hb; have vC := am hbox; clear hb hbox hg_ hk_; have nb5_3 : FG ≠ sJ := (by have := NN.1;  omega); have nb3_5 : sJ ≠ FG := (by have := NN.1;  omega); (try clear Z5); have Z5 := cz1 vC) | ((with_reducible refine gD 6 ?_); refine bX 6 #[.slice none 0 0, .slice none 0 0] 26 ?_; intro mH hg_ W3 hbox hb; have hk_ : Kept W2 W3 (fun _ => False) := Kept.noth hb; replace NN := nn NN (show W2.heap.size ≤ W3.heap.size from hk_.1); have DB := am (show w.heap.size ≤ mH from Nat.le_trans HB.1.size (Nat.le_of_eq hg_.symm)); replace NN := nn NN (show W2.heap.size ≤ mH from Nat.le_of_eq hg_.symm); replace NN := nn NN (show mH < W3.heap.size from fO hbox); replace iH := kB iH hk_; replace vC := kB vC hk_; replace HB := bS HB.1 hb; have iR := am hbox; clear hb hbox hg_ hk_; have nb6_3 : mH ≠ sJ := (by have := NN.1;  omega); have nb3_6 : sJ ≠ mH := (by have := NN.1;  omega); have nb6_5 : mH ≠ FG := (by have := NN.1;  omega); have nb5_6 : FG ≠ mH := (by have := NN.1;  omega); (try clear Z6); have Z6 := cz2 iR; (try clear Z3); have Z3 := cz2 iH) | ((with_reducible refine gC 14 ?_); refine cQ (some 12) Tryz.func14 (aM.calls k _ _ l0 _ _ l1 false _ (Kd.aU dT.1 HB.1) dS.1 (Kd.aU bV.1 HB.1) eS.1 D1.1) ?_; rintro W4 hb; have HB0 := am (show w.heap.size ≤ W3.heap.size from HB.1.size); have hk_ : Kept W3 W4 (fun _ => False) := Kept.noth hb; replace NN := nn NN (show W3.heap.size ≤ W4.heap.size from hk_.1); replace iH := kB iH hk_; replace vC := kB vC hk_; replace iR := kB iR hk_; replace HB := bS HB.1 hb; clear hb hk_; (try clear Z3); have Z3 := cz2 iH; (try clear Z6); have Z6 := cz2 iR; clear HB0))
  (try simp only [Exit.inBlock, Exit.then]); refine cT mH 26 #[.slice none 0 0, .slice none 0 0] (cO (cs := #[.slice none 0 0, .slice none 0 0]) (cO (cs := #[.slice none 0 0, .slice none 0 0]) (iR.1) 0 _ rfl) 1 _ rfl) Tryz.underlying26 ?_
  exact ⟨_, _, rfl, Kd.sP _ _ _ _ _, Kd.wU _ _ _ _ _, aK (aK HB.1 DB.1) DB.1⟩
 have c1 : ok = true := by simpa using c1
 rw [if_pos c1] at H
 subst c1
 obtain ⟨⟨c1a, c1b⟩, D2, H⟩ := bd H
 obtain ⟨i, D3, H⟩ := bd H
 dsimp only at H
 by_cases cj : i < 0
 ·rw [if_pos cj] at H
  have OX : decide (i < 0) = true := decide_eq_true cj
  obtain ⟨rfl, rfl, rfl⟩ := sZ3 H
  repeat clear H
  go_enter Tryz.func9, Tryz.ntmps9
  go_wp2_with (first | ((with_reducible refine gD 3 ?_); refine bX 3 #[.slice eE l0.length eF, .slice eV l1.length eC] 26 ?_; intro sJ hg_ W1 hbox hb; have hk_ : Kept w W1 (fun _ => False) := Kept.noth hb; replace NN := nn NN (show w.heap.size ≤ W1.heap.size from hk_.1); have Vf := am (show w.heap.size ≤ sJ from Nat.le_trans HB.1.size (Nat.le_of_eq hg_.symm)); replace NN := nn NN (show w.heap.size ≤ sJ from Nat.le_of_eq hg_.symm); replace NN := nn NN (show sJ < W1.heap.size from fO hbox); replace HB := bS HB.1 hb; have iH := am hbox; clear hb hbox hg_ hk_; (try clear Z3); have Z3 := cz2 iH) | ((with_reducible refine gD 5 ?_); refine bX 5 #[.slice A2 l2.length c2] 23 ?_; intro FG hg_ W2 hbox hb; have hk_ : Kept W1 W2 (fun _ => False) := Kept.noth hb; replace NN := nn NN (show W1.heap.size ≤ W2.heap.size from hk_.1); have GE5 := am (show w.heap.size ≤ FG from Nat.le_trans HB.1.size (Nat.le_of_eq hg_.symm)); replace NN := nn NN (show W1.heap.size ≤ FG from Nat.le_of_eq hg_.symm); replace NN := nn NN (show FG < W2.heap.size from fO hbox); replace iH := kB iH hk_; replace HB := bS HB.1 hb; have vC := am hbox; clear hb hbox hg_ hk_; have nb5_3 : FG ≠ sJ := (by have := NN.1;  omega); have nb3_5 : sJ ≠ FG := (by have := NN.1;  omega); (try clear Z5); have Z5 := cz1 vC) | ((with_reducible refine gD 6 ?_); refine bX 6 #[.slice none 0 0, .slice none 0 0] 26 ?_; intro mH hg_ W3 hbox hb; have hk_ : Kept W2 W3 (fun _ => False) := Kept.noth hb; replace NN := nn NN (show W2.heap.size ≤ W3.heap.size from hk_.1); have DB := am (show w.heap.size ≤ mH from Nat.le_trans HB.1.size (Nat.le_of_eq hg_.symm)); replace NN := nn NN (show W2.heap.size ≤ mH from Nat.le_of_eq hg_.symm); replace NN := nn NN (show mH < W3.heap.size from fO hbox); replace iH := kB iH hk_; replace vC := kB vC hk_; replace HB := bS HB.1 hb; have iR := am hbox; clear hb hbox hg_ hk_; have nb6_3 : mH ≠ sJ := (by have := NN.1;  omega); have nb3_6 : sJ ≠ mH := (by have := NN.1;  omega); have nb6_5 : mH ≠ FG := (by have := NN.1;  omega); have nb5_6 : FG ≠ mH := (by have := NN.1;  omega); (try clear Z6); have Z6 := cz2 iR; (try clear Z3); have Z3 := cz2 iH) | ((with_reducible refine gC 14 ?_); refine cQ (some 12) Tryz.func14 (aM.calls k _ _ l0 _ _ l1 true _ (Kd.aU dT.1 HB.1) dS.1 (Kd.aU bV.1 HB.1) eS.1 D1.1) ?_; rintro W4 hb; have HB0 := am (show w.heap.size ≤ W3.heap.size from HB.1.size); have hk_ : Kept W3 W4 (fun _ => False) := Kept.noth hb; replace NN := nn NN (show W3.heap.size ≤ W4.heap.size from hk_.1); replace iH := kB iH hk_; replace vC := kB vC hk_; replace iR := kB iR hk_; replace HB := bS HB.1 hb; clear hb hk_; (try clear Z3); have Z3 := cz2 iH; (try clear Z6); have Z6 := cz2 iR; clear HB0) | ((with_reducible refine gC 24 ?_); refine cE (some 16) Tryz.func24 (dM.calls k _ _ l0 _ _ l1 c1a c1b _ (Kd.aU dT.1 HB.1) dS.1 (Kd.aU bV.1 HB.1) eS.1 D2.1) ?_; rintro e_ W5 ⟨_, _, rfl, eH, lW, hb⟩; refine ⟨_, rfl, ?_⟩; have HB0 := am (show w.heap.size ≤ W4.heap.size from HB.1.size); have hk_ : Kept W4 W5 (fun _ => False) := Kept.noth hb; replace NN := nn NN (show W4.heap.size ≤ W5.heap.size from hk_.1); replace iH := kB iH hk_; replace vC := kB vC hk_; replace iR := kB iR hk_; replace HB := bS HB.1 hb; have KC := am (BkS.made (n := W4.heap.size) eH lW (HB0.out) (Nat.le_refl _)); clear eH lW; obtain ⟨Ac0, cc0, Ac1, cc1, e0_, e1_⟩ := KC.out.slices; subst e0_; subst e1_; clear hb hk_; (try clear Z3); have Z3 := cz2 iH; (try clear Z6); have Z6 := cz2 iR; clear HB0) | ((with_reducible refine gD 8 ?_); refine bX 8 #[.slice none 0 0, .slice none 0 0] 26 ?_; intro mN hg_ W6 hbox hb; have hk_ : Kept W5 W6 (fun _ => False) := Kept.noth hb; replace NN := nn NN (show W5.heap.size ≤ W6.heap.size from hk_.1); have H7 := am (show w.heap.size ≤ mN from Nat.le_trans HB.1.size (Nat.le_of_eq hg_.symm)); replace NN := nn NN (show W5.heap.size ≤ mN from Nat.le_of_eq hg_.symm); replace NN := nn NN (show mN < W6.heap.size from fO hbox); replace KC := am (BkS.kept KC.out hk_ (fun _ _ _ h => h)); replace iH := kB iH hk_; replace vC := kB vC hk_; replace iR := kB iR hk_; replace HB := bS HB.1 hb; have mW := am hbox; clear hb hbox hg_ hk_; have nb8_3 : mN ≠ sJ := (by have := NN.1;  omega); have nb3_8 : sJ ≠ mN := (by have := NN.1;  omega); have nb8_5 : mN ≠ FG := (by have := NN.1;  omega); have nb5_8 : FG ≠ mN := (by have := NN.1;  omega); have nb8_6 : mN ≠ mH := (by have := NN.1;  omega); have nb6_8 : mH ≠ mN := (by have := NN.1;  omega); (try clear Z8); have Z8 := cz2 mW; (try clear Z3); have Z3 := cz2 iH; (try clear Z6); have Z6 := cz2 iR) | ((with_reducible refine gC 27 ?_); refine cQ (some 19) Tryz.func27 (gH.calls _ _ l0 _ _ l1 a1 i _ (Kd.aU dT.1 (aK (aK HB.1 H7.1) H7.1)) dS.1 (Kd.aU bV.1 (aK (aK HB.1 H7.1) H7.1)) eS.1 D3.1) ?_; rintro W7 hb; have HB0 := am (show w.heap.size ≤ W6.heap.size from HB.1.size); have hk_ : Kept W6 W7 (fun k => k = mN) := (Kept.two (w := W6) (g := mN) 0 1 (.slice Ac0 c1a.length cc0) (.slice Ac1 c1b.length cc1)).below hb; replace NN := nn NN (show W6.heap.size ≤ W7.heap.size from hk_.1); replace KC := am (BkS.kept KC.out hk_ (fun k_ h1_ h2_ e_ => by have := NN.1;  omega)); replace iH := am (eB iH.1 hk_ (fun e_ => by have := NN.1;  omega)); replace vC := am (eB vC.1 hk_ (fun e_ => by have := NN.1;  omega)); replace iR := am (eB iR.1 hk_ (fun e_ => by have := NN.1;  omega)); replace mW := am (aX (g := mN) (o := .cells #[.slice Ac0 c1a.length cc0, .slice Ac1 c1b.length cc1] 26 (0, 0)) (cO (cs := #[.slice Ac0 c1a.length cc0, .slice none 0 0]) (cO (cs := #[.slice none 0 0, .slice none 0 0]) mW.1 0 _ rfl) 1 _ rfl) hb); replace HB := am (jB (aK (aK HB.1 H7.1) H7.1) hb); clear hb hk_; (try clear Z8); have Z8 := cz2 mW; (try clear Z6); have Z6 := cz2 iR; clear HB0))
  (try simp only [Exit.inBlock, Exit.then]); refine cT mH 26 #[.slice Ac0 c1a.length cc0, .slice Ac1 c1b.length cc1] (cO (cs := #[.slice Ac0 c1a.length cc0, .slice none 0 0]) (cO (cs := #[.slice none 0 0, .slice none 0 0]) (iR.1) 0 _ rfl) 1 _ rfl) Tryz.underlying26 ?_
  have hK_ := BkS.kept KC.out (Kept.two (w := W7) (g := mH) 0 1 (.slice Ac0 c1a.length cc0) (.slice Ac1 c1b.length cc1)) (fun k_ h1_ h2_ e_ => by have := NN.1;  omega)
  exact ⟨_, _, rfl, Kd.aT hK_.1 (fun _ _ => trivial), Kd.gX hK_.2 (fun _ h_ => h_.2), aK (aK HB.1 DB.1) DB.1⟩
 rw [if_neg cj] at H
 have OX : decide (i < 0) = false := decide_eq_false cj
 have c0 : 0 ≤ i := by omega
 obtain ⟨⟨c3, c4⟩, H⟩ := Bv H
 obtain ⟨q, D4, H⟩ := bd H
 obtain ⟨ad, A1e, c1e, A2e, c2e, ea, pq, Xh, Nh, l1e, r1e, l2e, r2e⟩ := CB bV.1 i c0 c3
 subst ea
 clear pq Xh l1e r1e
 have L2E := am l2e
 have R2E := am r2e
 clear l2e r2e
 have HX2 := am Nh
 clear Nh
 have c0b : decide (0 ≤ i) = true := decide_eq_true c0
 have c3b : decide (i < (l1.length : Int)) = true := decide_eq_true c3
 have c4b : decide (i < (c1b.length : Int)) = true := decide_eq_true c4
 have p6 := eq_true c0
 have q6 := eq_true c3
 have q7 := eq_true c4
 by_cases c5 : q = false
 ·subst c5
  rw [if_neg (by simp)] at H
  obtain ⟨rfl, rfl, rfl⟩ := sZ3 H
  repeat clear H
  go_enter Tryz.func9, Tryz.ntmps9
  try go_wp2_with (first | ((with_reducible refine gD 3 ?_); refine bX 3 #[.slice eE l0.length eF, .slice (some ad) l1.length eC] 26 ?_; intro sJ hg_ W1 hbox hb; have hk_ : Kept w W1 (fun _ => False) := Kept.noth hb; replace NN := nn NN (show w.heap.size ≤ W1.heap.size from hk_.1); have Vf := am (show w.heap.size ≤ sJ from Nat.le_trans HB.1.size (Nat.le_of_eq hg_.symm)); replace NN := nn NN (show w.heap.size ≤ sJ from Nat.le_of_eq hg_.symm); replace NN := nn NN (show sJ < W1.heap.size from fO hbox); replace HB := bS HB.1 hb; have iH := am hbox; clear hb hbox hg_ hk_; (try clear Z3); have Z3 := cz2 iH) | ((with_reducible refine gD 5 ?_); refine bX 5 #[.slice A2 l2.length c2] 23 ?_; intro FG hg_ W2 hbox hb; have hk_ : Kept W1 W2 (fun _ => False) := Kept.noth hb; replace NN := nn NN (show W1.heap.size ≤ W2.heap.size from hk_.1); have GE5 := am (show w.heap.size ≤ FG from Nat.le_trans HB.1.size (Nat.le_of_eq hg_.symm)); replace NN := nn NN (show W1.heap.size ≤ FG from Nat.le_of_eq hg_.symm); replace NN := nn NN (show FG < W2.heap.size from fO hbox); replace iH := kB iH hk_; replace HB := bS HB.1 hb; have vC := am hbox; clear hb hbox hg_ hk_; have nb5_3 : FG ≠ sJ := (by have := NN.1;  omega); have nb3_5 : sJ ≠ FG := (by have := NN.1;  omega); (try clear Z5); have Z5 := cz1 vC) | ((with_reducible refine gD 6 ?_); refine bX 6 #[.slice none 0 0, .slice none 0 0] 26 ?_; intro mH hg_ W3 hbox hb; have hk_ : Kept W2 W3 (fun _ => False) := Kept.noth hb; replace NN := nn NN (show W2.heap.size ≤ W3.heap.size from hk_.1); have DB := am (show w.heap.size ≤ mH from Nat.le_trans HB.1.size (Nat.le_of_eq hg_.symm)); replace NN := nn NN (show W2.heap.size ≤ mH from Nat.le_of_eq hg_.symm); replace NN := nn NN (show mH < W3.heap.size from fO hbox); replace iH := kB iH hk_; replace vC := kB vC hk_; replace HB := bS HB.1 hb; have iR := am hbox; clear hb hbox hg_ hk_; have nb6_3 : mH ≠ sJ := (by have := NN.1;  omega); have nb3_6 : sJ ≠ mH := (by have := NN.1;  omega); have nb6_5 : mH ≠ FG := (by have := NN.1;  omega); have nb5_6 : FG ≠ mH := (by have := NN.1;  omega); (try clear Z6); have Z6 := cz2 iR; (try clear Z3); have Z3 := cz2 iH) | ((with_reducible refine gC 14 ?_); refine cQ (some 12) Tryz.func14 (aM.calls k _ _ l0 _ _ l1 true _ (Kd.aU dT.1 HB.1) dS.1 (Kd.aU bV.1 HB.1) eS.1 D1.1) ?_; rintro W4 hb; have HB0 := am (show w.heap.size ≤ W3.heap.size from HB.1.size); have hk_ : Kept W3 W4 (fun _ => False) := Kept.noth hb; replace NN := nn NN (show W3.heap.size ≤ W4.heap.size from hk_.1); replace iH := kB iH hk_; replace vC := kB vC hk_; replace iR := kB iR hk_; replace HB := bS HB.1 hb; clear hb hk_; (try clear Z3); have Z3 := cz2 iH; (try clear Z6); have Z6 := cz2 iR; clear HB0) | ((with_reducible refine gC 24 ?_); refine cE (some 16) Tryz.func24 (dM.calls k _ _ l0 _ _ l1 c1a c1b _ (Kd.aU dT.1 HB.1) dS.1 (Kd.aU bV.1 HB.1) eS.1 D2.1) ?_; rintro e_ W5 ⟨_, _, rfl, eH, lW, hb⟩; refine ⟨_, rfl, ?_⟩; have HB0 := am (show w.heap.size ≤ W4.heap.size from HB.1.size); have hk_ : Kept W4 W5 (fun _ => False) := Kept.noth hb; replace NN := nn NN (show W4.heap.size ≤ W5.heap.size from hk_.1); replace iH := kB iH hk_; replace vC := kB vC hk_; replace iR := kB iR hk_; replace HB := bS HB.1 hb; have KC := am (BkS.made (n := W4.heap.size) eH lW (HB0.out) (Nat.le_refl _)); clear eH lW; obtain ⟨Ac0, cc0, Ac1, cc1, e0_, e1_⟩ := KC.out.slices; subst e0_; subst e1_; clear hb hk_; (try clear Z3); have Z3 := cz2 iH; (try clear Z6); have Z6 := cz2 iR; clear HB0) | ((with_reducible refine gD 8 ?_); refine bX 8 #[.slice none 0 0, .slice none 0 0] 26 ?_; intro mN hg_ W6 hbox hb; have hk_ : Kept W5 W6 (fun _ => False) := Kept.noth hb; replace NN := nn NN (show W5.heap.size ≤ W6.heap.size from hk_.1); have H7 := am (show w.heap.size ≤ mN from Nat.le_trans HB.1.size (Nat.le_of_eq hg_.symm)); replace NN := nn NN (show W5.heap.size ≤ mN from Nat.le_of_eq hg_.symm); replace NN := nn NN (show mN < W6.heap.size from fO hbox); replace KC := am (BkS.kept KC.out hk_ (fun _ _ _ h => h)); replace iH := kB iH hk_; replace vC := kB vC hk_; replace iR := kB iR hk_; replace HB := bS HB.1 hb; have mW := am hbox; clear hb hbox hg_ hk_; have nb8_3 : mN ≠ sJ := (by have := NN.1;  omega); have nb3_8 : sJ ≠ mN := (by have := NN.1;  omega); have nb8_5 : mN ≠ FG := (by have := NN.1;  omega); have nb5_8 : FG ≠ mN := (by have := NN.1;  omega); have nb8_6 : mN ≠ mH := (by have := NN.1;  omega); have nb6_8 : mH ≠ mN := (by have := NN.1;  omega); (try clear Z8); have Z8 := cz2 mW; (try clear Z3); have Z3 := cz2 iH; (try clear Z6); have Z6 := cz2 iR) | ((with_reducible refine gC 27 ?_); refine cQ (some 19) Tryz.func27 (gH.calls _ _ l0 _ _ l1 a1 i _ (Kd.aU dT.1 (aK (aK HB.1 H7.1) H7.1)) dS.1 (Kd.aU bV.1 (aK (aK HB.1 H7.1) H7.1)) eS.1 D3.1) ?_; rintro W7 hb; have HB0 := am (show w.heap.size ≤ W6.heap.size from HB.1.size); have hk_ : Kept W6 W7 (fun k => k = mN) := (Kept.two (w := W6) (g := mN) 0 1 (.slice Ac0 c1a.length cc0) (.slice Ac1 c1b.length cc1)).below hb; replace NN := nn NN (show W6.heap.size ≤ W7.heap.size from hk_.1); replace KC := am (BkS.kept KC.out hk_ (fun k_ h1_ h2_ e_ => by have := NN.1;  omega)); replace iH := am (eB iH.1 hk_ (fun e_ => by have := NN.1;  omega)); replace vC := am (eB vC.1 hk_ (fun e_ => by have := NN.1;  omega)); replace iR := am (eB iR.1 hk_ (fun e_ => by have := NN.1;  omega)); replace mW := am (aX (g := mN) (o := .cells #[.slice Ac0 c1a.length cc0, .slice Ac1 c1b.length cc1] 26 (0, 0)) (cO (cs := #[.slice Ac0 c1a.length cc0, .slice none 0 0]) (cO (cs := #[.slice none 0 0, .slice none 0 0]) mW.1 0 _ rfl) 1 _ rfl) hb); replace HB := am (jB (aK (aK HB.1 H7.1) H7.1) hb); clear hb hk_; (try clear Z8); have Z8 := cz2 mW; (try clear Z6); have Z6 := cz2 iR; clear HB0))
  have n0_ := am (BkS.kept KC.out (w' := W7.drew) (Kept.noth (aY (Below.refl _ _))) (fun _ _ _ h => h))
  have n1_ := BD iH
  have n2_ := BD vC
  have n3_ := BD iR
  have n4_ := BD mW
  have n5_ := am (aY HB.1)
  have nle_ := am (show W7.heap.size ≤ W7.drew.heap.size from Nat.le_refl _)
  clear KC iH vC iR mW HB
  have KC := n0_
  have iH := n1_
  have vC := n2_
  have iR := n3_
  have mW := n4_
  have HB := n5_
  clear n0_ n1_ n2_ n3_ n4_ n5_
  refine sT (S := fun w' => w'.cell? ⟨FG, 0, none⟩ = some (.slice A2 l2.length c2) ∧ w'.cell? ⟨sJ, 0, none⟩ = some (.slice eE l0.length eF) ∧ w'.cell? ⟨sJ, 1, none⟩ = some (.slice (some ad) l1.length eC) ∧ w'.cell? ⟨(ad.add (i.toNat * 3)).block, (ad.add (i.toNat * 3)).off + 2, none⟩ = some (.slice A2e (aA l1 i).f2.length c2e)) [] 10 ⟨⟨(bP vC.1 0).trans rfl, (bP iH.1 0).trans rfl, (bP iH.1 1).trans rfl, (HB.1.cell (World.block_lt_of_cell? w _ HX2.out)).trans HX2.out⟩⟩ (fun hHeld => ?_)
  generalize W7.drew = W8 at KC iH vC iR mW HB nle_ hHeld ⊢
  have KZ := nle_
  clear nle_
  refine tK4_ 0 (some 25) ?_
  refine pU0 1 (some 26) ?_
  refine tK4_ 2 (some 27) ?_
  refine pU0 3 (some 28) ?_
  refine pU0 4 (some 29) ?_
  refine pU0 5 (some 30) ?_
  refine tK4_ 6 (some 31) ?_
  refine oM 7 (some 32) fun K hK => ?_
  refine gQ Tryz.func26 (iC.calls k _ _ l2 _ _ (aA l1 i).f2 false _ (Kd.aU B0.1 HB.1) yN.1 (Kd.aU R2E.out HB.1) L2E.out D4.1) ?_
  rintro W9 hb
  obtain ⟨nd_, hd_⟩ := hb; have hb : Below W8.heap.size W8 W9 := hd_ ▸ bA (Below.refl _ _) nd_; clear hd_ nd_
  have HB0 := am (show w.heap.size ≤ W8.heap.size from HB.1.size)
  have hk_ : Kept W8 W9 (fun _ => False) := Kept.noth hb
  have X1 := am (show W8.heap.size ≤ W9.heap.size from hk_.1); replace NN := nn NN X1.1
  replace KC := am (BkS.kept KC.out hk_ (fun _ _ _ h => h))
  replace iH := kB iH hk_
  replace vC := kB vC hk_
  replace iR := kB iR hk_
  replace mW := kB mW hk_
  replace HB := bS HB.1 hb
  clear hb hk_ HB0
  refine hK.out _ _ ⟨(bP vC.1 0).trans rfl, (bP iH.1 0).trans rfl, (bP iH.1 1).trans rfl, (HB.1.cell (World.block_lt_of_cell? w _ HX2.out)).trans HX2.out⟩ (fun hHeld => ?_)
  clear hK K
  refine nM ?_
  refine pU0 8 (some 33) ?_
  refine pU0 9 (some 24) ?_
  refine VM (by kernel_rfl) ?_
  (try clear Z8)
  have Z8 := cz2 mW
  (try clear Z6)
  have Z6 := cz2 iR
  go_wp2
  (try simp only [Exit.inBlock, Exit.then]); refine cT mH 26 #[.slice Ac0 c1a.length cc0, .slice Ac1 c1b.length cc1] (cO (cs := #[.slice Ac0 c1a.length cc0, .slice none 0 0]) (cO (cs := #[.slice none 0 0, .slice none 0 0]) (iR.1) 0 _ rfl) 1 _ rfl) Tryz.underlying26 ?_
  have hK_ := BkS.kept KC.out (Kept.two (w := W9) (g := mH) 0 1 (.slice Ac0 c1a.length cc0) (.slice Ac1 c1b.length cc1)) (fun k_ h1_ h2_ e_ => by have := NN.1; have := KZ.1; have := X1.1;  omega)
  exact ⟨_, _, rfl, Kd.aT hK_.1 (fun _ _ => trivial), Kd.gX hK_.2 (fun _ h_ => h_.2), aK (aK HB.1 DB.1) DB.1⟩
 have c5 : q = true := by simpa using c5
 rw [if_pos c5] at H
 subst c5
 obtain ⟨nd, D5, H⟩ := bd H
 obtain ⟨rfl, rfl, rfl⟩ := sZ3 H
 repeat clear H
 go_enter Tryz.func9, Tryz.ntmps9
 try go_wp2_with (first | ((with_reducible refine gD 3 ?_); refine bX 3 #[.slice eE l0.length eF, .slice (some ad) l1.length eC] 26 ?_; intro sJ hg_ W1 hbox hb; have hk_ : Kept w W1 (fun _ => False) := Kept.noth hb; replace NN := nn NN (show w.heap.size ≤ W1.heap.size from hk_.1); have Vf := am (show w.heap.size ≤ sJ from Nat.le_trans HB.1.size (Nat.le_of_eq hg_.symm)); replace NN := nn NN (show w.heap.size ≤ sJ from Nat.le_of_eq hg_.symm); replace NN := nn NN (show sJ < W1.heap.size from fO hbox); replace HB := bS HB.1 hb; have iH := am hbox; clear hb hbox hg_ hk_; (try clear Z3); have Z3 := cz2 iH) | ((with_reducible refine gD 5 ?_); refine bX 5 #[.slice A2 l2.length c2] 23 ?_; intro FG hg_ W2 hbox hb; have hk_ : Kept W1 W2 (fun _ => False) := Kept.noth hb; replace NN := nn NN (show W1.heap.size ≤ W2.heap.size from hk_.1); have GE5 := am (show w.heap.size ≤ FG from Nat.le_trans HB.1.size (Nat.le_of_eq hg_.symm)); replace NN := nn NN (show W1.heap.size ≤ FG from Nat.le_of_eq hg_.symm); replace NN := nn NN (show FG < W2.heap.size from fO hbox); replace iH := kB iH hk_; replace HB := bS HB.1 hb; have vC := am hbox; clear hb hbox hg_ hk_; have nb5_3 : FG ≠ sJ := (by have := NN.1;  omega); have nb3_5 : sJ ≠ FG := (by have := NN.1;  omega); (try clear Z5); have Z5 := cz1 vC) | ((with_reducible refine gD 6 ?_); refine bX 6 #[.slice none 0 0, .slice none 0 0] 26 ?_; intro mH hg_ W3 hbox hb; have hk_ : Kept W2 W3 (fun _ => False) := Kept.noth hb; replace NN := nn NN (show W2.heap.size ≤ W3.heap.size from hk_.1); have DB := am (show w.heap.size ≤ mH from Nat.le_trans HB.1.size (Nat.le_of_eq hg_.symm)); replace NN := nn NN (show W2.heap.size ≤ mH from Nat.le_of_eq hg_.symm); replace NN := nn NN (show mH < W3.heap.size from fO hbox); replace iH := kB iH hk_; replace vC := kB vC hk_; replace HB := bS HB.1 hb; have iR := am hbox; clear hb hbox hg_ hk_; have nb6_3 : mH ≠ sJ := (by have := NN.1;  omega); have nb3_6 : sJ ≠ mH := (by have := NN.1;  omega); have nb6_5 : mH ≠ FG := (by have := NN.1;  omega); have nb5_6 : FG ≠ mH := (by have := NN.1;  omega); (try clear Z6); have Z6 := cz2 iR; (try clear Z3); have Z3 := cz2 iH) | ((with_reducible refine gC 14 ?_); refine cQ (some 12) Tryz.func14 (aM.calls k _ _ l0 _ _ l1 true _ (Kd.aU dT.1 HB.1) dS.1 (Kd.aU bV.1 HB.1) eS.1 D1.1) ?_; rintro W4 hb; have HB0 := am (show w.heap.size ≤ W3.heap.size from HB.1.size); have hk_ : Kept W3 W4 (fun _ => False) := Kept.noth hb; replace NN := nn NN (show W3.heap.size ≤ W4.heap.size from hk_.1); replace iH := kB iH hk_; replace vC := kB vC hk_; replace iR := kB iR hk_; replace HB := bS HB.1 hb; clear hb hk_; (try clear Z3); have Z3 := cz2 iH; (try clear Z6); have Z6 := cz2 iR; clear HB0) | ((with_reducible refine gC 24 ?_); refine cE (some 16) Tryz.func24 (dM.calls k _ _ l0 _ _ l1 c1a c1b _ (Kd.aU dT.1 HB.1) dS.1 (Kd.aU bV.1 HB.1) eS.1 D2.1) ?_; rintro e_ W5 ⟨_, _, rfl, eH, lW, hb⟩; refine ⟨_, rfl, ?_⟩; have HB0 := am (show w.heap.size ≤ W4.heap.size from HB.1.size); have hk_ : Kept W4 W5 (fun _ => False) := Kept.noth hb; replace NN := nn NN (show W4.heap.size ≤ W5.heap.size from hk_.1); replace iH := kB iH hk_; replace vC := kB vC hk_; replace iR := kB iR hk_; replace HB := bS HB.1 hb; have KC := am (BkS.made (n := W4.heap.size) eH lW (HB0.out) (Nat.le_refl _)); clear eH lW; obtain ⟨Ac0, cc0, Ac1, cc1, e0_, e1_⟩ := KC.out.slices; subst e0_; subst e1_; clear hb hk_; (try clear Z3); have Z3 := cz2 iH; (try clear Z6); have Z6 := cz2 iR; clear HB0) | ((with_reducible refine gD 8 ?_); refine bX 8 #[.slice none 0 0, .slice none 0 0] 26 ?_; intro mN hg_ W6 hbox hb; have hk_ : Kept W5 W6 (fun _ => False) := Kept.noth hb; replace NN := nn NN (show W5.heap.size ≤ W6.heap.size from hk_.1); have H7 := am (show w.heap.size ≤ mN from Nat.le_trans HB.1.size (Nat.le_of_eq hg_.symm)); replace NN := nn NN (show W5.heap.size ≤ mN from Nat.le_of_eq hg_.symm); replace NN := nn NN (show mN < W6.heap.size from fO hbox); replace KC := am (BkS.kept KC.out hk_ (fun _ _ _ h => h)); replace iH := kB iH hk_; replace vC := kB vC hk_; replace iR := kB iR hk_; replace HB := bS HB.1 hb; have mW := am hbox; clear hb hbox hg_ hk_; have nb8_3 : mN ≠ sJ := (by have := NN.1;  omega); have nb3_8 : sJ ≠ mN := (by have := NN.1;  omega); have nb8_5 : mN ≠ FG := (by have := NN.1;  omega); have nb5_8 : FG ≠ mN := (by have := NN.1;  omega); have nb8_6 : mN ≠ mH := (by have := NN.1;  omega); have nb6_8 : mH ≠ mN := (by have := NN.1;  omega); (try clear Z8); have Z8 := cz2 mW; (try clear Z3); have Z3 := cz2 iH; (try clear Z6); have Z6 := cz2 iR) | ((with_reducible refine gC 27 ?_); refine cQ (some 19) Tryz.func27 (gH.calls _ _ l0 _ _ l1 a1 i _ (Kd.aU dT.1 (aK (aK HB.1 H7.1) H7.1)) dS.1 (Kd.aU bV.1 (aK (aK HB.1 H7.1) H7.1)) eS.1 D3.1) ?_; rintro W7 hb; have HB0 := am (show w.heap.size ≤ W6.heap.size from HB.1.size); have hk_ : Kept W6 W7 (fun k => k = mN) := (Kept.two (w := W6) (g := mN) 0 1 (.slice Ac0 c1a.length cc0) (.slice Ac1 c1b.length cc1)).below hb; replace NN := nn NN (show W6.heap.size ≤ W7.heap.size from hk_.1); replace KC := am (BkS.kept KC.out hk_ (fun k_ h1_ h2_ e_ => by have := NN.1;  omega)); replace iH := am (eB iH.1 hk_ (fun e_ => by have := NN.1;  omega)); replace vC := am (eB vC.1 hk_ (fun e_ => by have := NN.1;  omega)); replace iR := am (eB iR.1 hk_ (fun e_ => by have := NN.1;  omega)); replace mW := am (aX (g := mN) (o := .cells #[.slice Ac0 c1a.length cc0, .slice Ac1 c1b.length cc1] 26 (0, 0)) (cO (cs := #[.slice Ac0 c1a.length cc0, .slice none 0 0]) (cO (cs := #[.slice none 0 0, .slice none 0 0]) mW.1 0 _ rfl) 1 _ rfl) hb); replace HB := am (jB (aK (aK HB.1 H7.1) H7.1) hb); clear hb hk_; (try clear Z8); have Z8 := cz2 mW; (try clear Z6); have Z6 := cz2 iR; clear HB0))
 have n0_ := am (BkS.kept KC.out (w' := W7.drew) (Kept.noth (aY (Below.refl _ _))) (fun _ _ _ h => h))
 have n1_ := BD iH
 have n2_ := BD vC
 have n3_ := BD iR
 have n4_ := BD mW
 have n5_ := am (aY HB.1)
 have nle_ := am (show W7.heap.size ≤ W7.drew.heap.size from Nat.le_refl _)
 clear KC iH vC iR mW HB
 have KC := n0_
 have iH := n1_
 have vC := n2_
 have iR := n3_
 have mW := n4_
 have HB := n5_
 clear n0_ n1_ n2_ n3_ n4_ n5_
 refine sT (S := fun w' => w'.cell? ⟨FG, 0, none⟩ = some (.slice A2 l2.length c2) ∧ w'.cell? ⟨sJ, 0, none⟩ = some (.slice eE l0.length eF) ∧ w'.cell? ⟨sJ, 1, none⟩ = some (.slice (some ad) l1.length eC) ∧ w'.cell? ⟨(ad.add (i.toNat * 3)).block, (ad.add (i.toNat * 3)).off + 2, none⟩ = some (.slice A2e (aA l1 i).f2.length c2e)) [] 10 ⟨⟨(bP vC.1 0).trans rfl, (bP iH.1 0).trans rfl, (bP iH.1 1).trans rfl, (HB.1.cell (World.block_lt_of_cell? w _ HX2.out)).trans HX2.out⟩⟩ (fun hHeld => ?_)
 generalize W7.drew = W8 at KC iH vC iR mW HB nle_ hHeld ⊢
 have KZ := nle_
 clear nle_
 refine tK4_ 0 (some 25) ?_
 refine pU0 1 (some 26) ?_
 refine tK4_ 2 (some 27) ?_
 refine pU0 3 (some 28) ?_
 refine pU0 4 (some 29) ?_
 refine pU0 5 (some 30) ?_
 refine tK4_ 6 (some 31) ?_
 refine oM 7 (some 32) fun K hK => ?_
 refine gQ Tryz.func26 (iC.calls k _ _ l2 _ _ (aA l1 i).f2 true _ (Kd.aU B0.1 HB.1) yN.1 (Kd.aU R2E.out HB.1) L2E.out D4.1) ?_
 rintro W9 hb
 obtain ⟨nd_, hd_⟩ := hb; have hb : Below W8.heap.size W8 W9 := hd_ ▸ bA (Below.refl _ _) nd_; clear hd_ nd_
 have HB0 := am (show w.heap.size ≤ W8.heap.size from HB.1.size)
 have hk_ : Kept W8 W9 (fun _ => False) := Kept.noth hb
 have X1 := am (show W8.heap.size ≤ W9.heap.size from hk_.1); replace NN := nn NN X1.1
 replace KC := am (BkS.kept KC.out hk_ (fun _ _ _ h => h))
 replace iH := kB iH hk_
 replace vC := kB vC hk_
 replace iR := kB iR hk_
 replace mW := kB mW hk_
 replace HB := bS HB.1 hb
 clear hb hk_ HB0
 refine hK.out _ _ ⟨(bP vC.1 0).trans rfl, (bP iH.1 0).trans rfl, (bP iH.1 1).trans rfl, (HB.1.cell (World.block_lt_of_cell? w _ HX2.out)).trans HX2.out⟩ (fun hHeld => ?_)
 clear hK K
 refine nM ?_
 refine pU0 8 (some 33) ?_
 refine pU0 9 (some 24) ?_
 refine VM (by kernel_rfl) ?_
 (try clear Z8)
 have Z8 := cz2 mW
 (try clear Z5)
 have Z5 := cz1 vC
 obtain ⟨go, cgo, e0_, _, _, _⟩ := Kd.SL KC.out.2 (by omega)
 injection e0_ with ea_ _ ec_
 subst ea_; subst ec_
 generalize hxx : aA c1b i = x
 have HXX := am hxx
 clear hxx
 have HB0_ := am (show w.heap.size ≤ W4.heap.size from (by have := NN.1; omega))
 go_wp2_with (first | ((with_reducible refine gC 28 ?_); refine cE (some 41) Tryz.func28 (dW.calls _ _ l2 nd _ (Kd.aU B0.1 HB.1) yN.1 D5.1) ?_; rintro e_ W10 ⟨_, rfl, eH, hb⟩; refine ⟨_, rfl, ?_⟩; have HB0 := am (show w.heap.size ≤ W9.heap.size from HB.1.size); have hk_ : Kept W9 W10 (fun _ => False) := Kept.noth hb; replace NN := nn NN (show W9.heap.size ≤ W10.heap.size from hk_.1); replace KC := am (BkS.kept KC.out hk_ (fun _ _ _ h => h)); replace iH := kB iH hk_; replace vC := kB vC hk_; replace iR := kB iR hk_; replace mW := kB mW hk_; replace HB := bS HB.1 hb; have KN := am (RwS.made (n := W9.heap.size) eH (HB0.out) (Nat.le_refl _)); clear eH; obtain ⟨An0, cn0, e0_⟩ := KN.out.slices; subst e0_; clear hb hk_; (try clear Z8); have Z8 := cz2 mW; (try clear Z5); have Z5 := cz1 vC; clear HB0; obtain ⟨⟨Aq_, cq_, hq_⟩, hqf_, hqf1_⟩ := BkS.bq KC.out i c0 c4; have hcq := hq_; have hfq := hqf_; clear hq_ hqf_ hqf1_; have ng3 : sJ ≠ go := (by have h_ := ((Kd.S_R KC.out.2).1 go rfl).1; have := NN.1; have := KZ.1; have := NN.1;  omega); have ng5 : FG ≠ go := (by have h_ := ((Kd.S_R KC.out.2).1 go rfl).1; have := NN.1; have := KZ.1; have := NN.1;  omega); have ng6 : mH ≠ go := (by have h_ := ((Kd.S_R KC.out.2).1 go rfl).1; have := NN.1; have := KZ.1; have := NN.1;  omega); have ng8 : mN ≠ go := (by have h_ := ((Kd.S_R KC.out.2).1 go rfl).1; have := NN.1; have := KZ.1; have := NN.1;  omega)) | ((with_reducible refine FX (t := 23) (p := 43) rfl ?_); refine DY (t := 23) (p := 43) (v := ?vo_) (w1 := (W10.setCell ⟨go, i.toNat * 3 + 2, none⟩ (.slice An0 nd.length cn0))) ?hg ?ho ?hn ?hr ?_; (case ho => rfl); (case hg => rfl); (case hn => rfl); (case hr => first | (go_simp; done) | (go_simp; rfl)); intro W11 hw; have hk_ : Kept W10 W11 (fun k => k = go) := (by rw [hw]; exact Kept.setCell (p := ⟨go, i.toNat * 3 + 2, none⟩) (Kept.refl W10 (fun k => k = go)) (Or.inl rfl) _); replace NN := nn NN (show W10.heap.size ≤ W11.heap.size from hk_.1); replace iH := am (eB iH.1 hk_ (fun e_ => by have h_ := (Kd.S_R KC.out.2).1 go rfl; have h2_ := h_.1; have := NN.1; have := KZ.1; have := NN.1;  omega)); replace vC := am (eB vC.1 hk_ (fun e_ => by have h_ := (Kd.S_R KC.out.2).1 go rfl; have h2_ := h_.1; have := NN.1; have := KZ.1; have := NN.1;  omega)); replace iR := am (eB iR.1 hk_ (fun e_ => by have h_ := (Kd.S_R KC.out.2).1 go rfl; have h2_ := h_.1; have := NN.1; have := KZ.1; have := NN.1;  omega)); replace mW := am (eB mW.1 hk_ (fun e_ => by have h_ := (Kd.S_R KC.out.2).1 go rfl; have h2_ := h_.1; have := NN.1; have := KZ.1; have := NN.1;  omega)); replace HB := am (show Below w.heap.size w W11 from (by rw [hw]; exact aK HB.1 (by have h_ := (Kd.S_R KC.out.2).1 go rfl; have h2_ := h_.1; have h3_ := HB0_.out; have := NN.1; have := KZ.1; have := NN.1;  show w.heap.size ≤ go; omega))); replace KC := am (show BkS w W11 W4.heap.size W10.heap.size (.slice Ac0 c1a.length cc0) (.slice (some ⟨go, 0, none⟩) c1b.length cc1) c1a _ from (by rw [hw]; exact BkS.needs KC.out KN.out (by have := NN.1; have := KZ.1; have := NN.1;  omega) (by have := NN.1; have := KZ.1; have := NN.1;  omega) i c0 c4)); clear KN hw; clear hk_; (try clear hcq hfq); rw [HXX.out] at KC; obtain ⟨Ah, ch, PH, hh1, hh2, hh3, hh4⟩ := BkS.has KC.out i c0 c4; rw [Ye c0 c4] at hh1 hh2 hh3 hh4; dsimp only at hh1 hh2 hh3 hh4; simp only [List.set_set] at hh4; obtain ⟨_, _, hhf⟩ := BkS.bq KC.out i c0 c4; have HH2 := am hh2; have HH3 := am hh3; have HH4 := am hh4; clear hh2 hh3 hh4; (try clear Z8); have Z8 := cz2 mW; (try clear Z5); have Z5 := cz1 vC) | ((with_reducible refine gC 43 ?_); refine cQ (some 50) Tryz.func43 (TB 44 _ (enters_of Tryz.func44 (by kernel_rfl) rfl) (fun s => !hasS l2 s) PH Ah ch x.f1 w _ HB.1 HH2.out (Mf yN.1 vC.1 (fun e_ => Kd.R_ne HH2.out vC.1 (by decide) (HH3.out _ e_).2.2) B0.1)) ?_; rintro W12 ⟨hr_, hbb, hkk⟩; replace NN := nn NN (show W11.heap.size ≤ W12.heap.size from hkk.1); have HK4 := am (HH4.out W12 _ _ _ hkk hr_); have nb3_ := am (eB iH.1 hkk (fun e_ => Kd.R_ne HH2.out iH.1 (by decide) (HH3.out _ e_).2.2)); have nb5_ := am (eB vC.1 hkk (fun e_ => Kd.R_ne HH2.out vC.1 (by decide) (HH3.out _ e_).2.2)); have nb6_ := am (eB iR.1 hkk (fun e_ => Kd.R_ne HH2.out iR.1 (by decide) (HH3.out _ e_).2.2)); have nb8_ := am (eB mW.1 hkk (fun e_ => Kd.R_ne HH2.out mW.1 (by decide) (HH3.out _ e_).2.2)); have nc_ := (cell_kept hh1 hkk (fun e_ => (HH3.out _ e_).2.1 rfl)); have nf_ := hhf; have hg_ := am ((Kd.S_R KC.out.2).1 go rfl).1; have hgrow := am (show W12.frozen? ⟨go, i.toNat * 3 + 1, none⟩ = false from (by have h_ := (Kd.nC KC.out.2) go rfl; obtain ⟨cc_, hc_⟩ := h_; exact gF (eB hc_ hkk (fun e_ => (HH3.out _ e_).2.1 rfl)) _)); clear HB hh1 hhf nf_ KC HH2 HH4 hr_ iH vC iR mW; have HB := am hbb; clear hbb hkk; have iH := nb3_; have vC := nb5_; have iR := nb6_; have mW := nb8_; clear nb3_ nb5_ nb6_ nb8_; have hcg := nc_; clear nc_; have hfg := hgrow.out; (try clear Z8); have Z8 := cz2 mW) | ((with_reducible refine FX (t := 23) (p := 52) rfl ?_); refine DY (t := 23) (p := 52) (v := ?vo2_) (w1 := (W12.setCell ⟨go, i.toNat * 3 + 1, none⟩ (.slice Ah (x.f1.filter (fun s => !(!hasS l2 s))).length ch))) ?hg ?ho ?hn ?hr ?_; (case ho => rfl); (case hg => rfl); (case hn => rfl); (case hr => first | (go_simp; done) | (go_simp; rfl)); intro W13 hw; have hk_ : Kept W12 W13 (fun k => k = go) := (by rw [hw]; exact Kept.setCell (p := ⟨go, i.toNat * 3 + 1, none⟩) (Kept.refl W12 (fun k => k = go)) (Or.inl rfl) _); replace NN := nn NN (show W12.heap.size ≤ W13.heap.size from hk_.1); have KC := am (show BkS w W13 W4.heap.size W10.heap.size (.slice Ac0 c1a.length cc0) (.slice (some ⟨go, 0, none⟩) c1b.length cc1) c1a _ from (by rw [hw]; exact HK4.out)); replace iH := am (eB iH.1 hk_ (fun e_ => ng3 e_)); replace vC := am (eB vC.1 hk_ (fun e_ => ng5 e_)); replace iR := am (eB iR.1 hk_ (fun e_ => ng6 e_)); replace mW := am (eB mW.1 hk_ (fun e_ => ng8 e_)); replace HB := am (show Below w.heap.size w W13 from (by rw [hw]; exact aK HB.1 (by have h2_ := hg_.out; have h3_ := HB0_.out; have := NN.1; have := KZ.1; have := NN.1;  show w.heap.size ≤ go; omega))); clear HK4 hw; clear hk_; (try clear hcg hfg); (try clear Z8); have Z8 := cz2 mW; (try clear Z6); have Z6 := cz2 iR))
 (try simp only [Exit.inBlock, Exit.then]); refine cT mH 26 #[.slice Ac0 c1a.length cc0, .slice (some ⟨go, 0, none⟩) c1b.length cc1] (cO (cs := #[.slice Ac0 c1a.length cc0, .slice none 0 0]) (cO (cs := #[.slice none 0 0, .slice none 0 0]) (iR.1) 0 _ rfl) 1 _ rfl) Tryz.underlying26 ?_
 have hK_ := BkS.kept KC.out (Kept.two (w := W13) (g := mH) 0 1 (.slice Ac0 c1a.length cc0) (.slice (some ⟨go, 0, none⟩) c1b.length cc1)) (fun k_ h1_ h2_ e_ => by have := NN.1; have := KZ.1; have := NN.1;  omega)
 have hS_ := hK_.2
 rw [← HXX.out] at hS_
 simp only [Bool.not_not] at hS_
 exact ⟨_, _, rfl, Kd.aT hK_.1 (fun _ _ => trivial), Kd.gX hS_ (fun _ h_ => h_.2), aK (aK HB.1 DB.1) DB.1⟩
end Go.Proofs.YtaofjgnhapnndaaGreat.Q
