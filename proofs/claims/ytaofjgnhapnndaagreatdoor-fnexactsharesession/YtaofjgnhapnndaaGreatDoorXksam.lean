/- Texts that the row needs: words on memory and rows, the contracts of the functions it reaches, and the plain lemmas on what they compute. -/
import Derived.Shelf.Sort.Plain
import Derived.Shelf.Slices.In.SortNone2
import Derived.Test.YtaofjgnhapnndaaGreatDoorXksal
set_option maxHeartbeats 8000000
set_option maxRecDepth 100000
open Go.Proofs.YtaofjgnhapnndaaGreatDoorFks
namespace Go.Proofs.YtaofjgnhapnndaaGreatDoor.Q
open Go.RowKit Go.Proofs.YtaofjgnhapnndaaGreatDoorW.PrintWords Go.Proofs.YtaofjgnhapnndaaGreatDoorW.PrintLast Go.Proofs.YtaofjgnhapnndaaGreatDoorW.PrintMore
set_option linter.unusedVariables false
set_option linter.unusedSimpArgs false
open Go.Shelf Go.Lib Go.Sort
def fZ : Go.Shelf.Ren :=
{
  f := fun x =>
    match x with
    | 192 => 75
    | 190 => 99
    | 125 => 97
    | 258 => 128
    | 128 => 118
    | 129 => 119
    | 302 => 142
    | 303 => 143
    | 304 => 144
    | 305 => 145
    | 306 => 146
    | 307 => 147
    | 308 => 148
    | 309 => 149
    | 310 => 150
    | 333 => 158
    | 329 => 159
    | 330 => 160
    | 334 => 161
    | 335 => 162
    | 336 => 163
    | 344 => 166
    | n => n,
  t := fun x =>
    match x with
    | 31 => 27
    | 0 => 0
    | 9 => 9
    | 3 => 3
    | 46 => 107
    | 51 => 125
    | 53 => 127
    | 4 => 4
    | 183 => 156
    | 182 => 155
    | 131 => 134
    | 5 => 5
    | 218 => 171
    | 222 => 152
    | 228 => 174
    | 229 => 169
    | n => n,
  g := fun x => x }
theorem WS : Go.Proofs.Lays.n192 Tryz.prog fZ :=
{ mixed := Eq.refl true, f125 := Eq.trans Tryz.func97 (congrArg some (Eq.refl (Body.n125 fZ))),
  f128 := Eq.trans Tryz.func118 (congrArg some (Eq.refl (Body.n128 fZ))),
  f129 := Eq.trans Tryz.func119 (congrArg some (Eq.refl (Body.n129 fZ))),
  f190 := Eq.trans Tryz.func99 (congrArg some (Eq.refl (Body.n190 fZ))),
  f192 := Eq.trans Tryz.func75 (congrArg some (Eq.refl (Body.n192 fZ))),
  f258 := Eq.trans Tryz.func128 (congrArg some (Eq.refl (Body.n258 fZ))),
  f302 := Eq.trans Tryz.func142 (congrArg some (Eq.refl (Body.n302 fZ))),
  f303 := Eq.trans Tryz.func143 (congrArg some (Eq.refl (Body.n303 fZ))),
  f304 := Eq.trans Tryz.func144 (congrArg some (Eq.refl (Body.n304 fZ))),
  f305 := Eq.trans Tryz.func145 (congrArg some (Eq.refl (Body.n305 fZ))),
  f306 := Eq.trans Tryz.func146 (congrArg some (Eq.refl (Body.n306 fZ))),
  f307 := Eq.trans Tryz.func147 (congrArg some (Eq.refl (Body.n307 fZ))),
  f308 := Eq.trans Tryz.func148 (congrArg some (Eq.refl (Body.n308 fZ))),
  f309 := Eq.trans Tryz.func149 (congrArg some (Eq.refl (Body.n309 fZ))),
  f310 := Eq.trans Tryz.func150 (congrArg some (Eq.refl (Body.n310 fZ))),
  f329 := Eq.trans Tryz.func159 (congrArg some (Eq.refl (Body.n329 fZ))),
  f330 := Eq.trans Tryz.func160 (congrArg some (Eq.refl (Body.n330 fZ))),
  f333 := Eq.trans Tryz.func158 (congrArg some (Eq.refl (Body.n333 fZ))),
  f334 := Eq.trans Tryz.func161 (congrArg some (Eq.refl (Body.n334 fZ))),
  f335 := Eq.trans Tryz.func162 (congrArg some (Eq.refl (Body.n335 fZ))),
  f336 := Eq.trans Tryz.func163 (congrArg some (Eq.refl (Body.n336 fZ))),
  f344 := Eq.trans Tryz.func166 (congrArg some (Eq.refl (Body.n344 fZ))), t0 := Tryz.underlying0,
  a0 := Tryz.isAgg0, z0 := Tryz.sizeOf0, v0 := Tryz.zeroValue0, t3 := Tryz.underlying3, a3 := Tryz.isAgg3,
  z3 := Tryz.sizeOf3, v3 := Tryz.zeroValue3, t4 := Tryz.underlying4, a4 := Tryz.isAgg4, z4 := Tryz.sizeOf4,
  v4 := Tryz.zeroValue4, t5 := Tryz.underlying5, a5 := Tryz.isAgg5, z5 := Tryz.sizeOf5, v5 := Tryz.zeroValue5,
  t9 := Tryz.underlying9, a9 := Tryz.isAgg9, z9 := Tryz.sizeOf9, v9 := Tryz.zeroValue9, t31 := Tryz.underlying27,
  a31 := Tryz.isAgg27, z31 := Tryz.sizeOf27, v31 := Tryz.zeroValue27, t46 := Tryz.underlying107, a46 := Tryz.isAgg107,
  z46 := Tryz.sizeOf107, v46 := Tryz.zeroValue107, t51 := Tryz.underlying125, a51 := Tryz.isAgg125,
  z51 := Tryz.sizeOf125, v51 := Tryz.zeroValue125, t53 := Tryz.underlying127, a53 := Tryz.isAgg127,
  z53 := Tryz.sizeOf127, v53 := Tryz.zeroValue127, t131 := Tryz.underlying134, a131 := Tryz.isAgg134,
  z131 := Tryz.sizeOf134, v131 := Tryz.zeroValue134, t182 := Tryz.underlying155, a182 := Tryz.isAgg155,
  z182 := Tryz.sizeOf155, v182 := Tryz.zeroValue155, t183 := Tryz.underlying156, a183 := Tryz.isAgg156,
  z183 := Tryz.sizeOf156, v183 := Tryz.zeroValue156, t218 := Tryz.underlying171, a218 := Tryz.isAgg171,
  z218 := Tryz.sizeOf171, v218 := Tryz.zeroValue171, t222 := Tryz.underlying152, a222 := Tryz.isAgg152,
  z222 := Tryz.sizeOf152, v222 := Tryz.zeroValue152, t228 := Tryz.underlying174, a228 := Tryz.isAgg174,
  z228 := Tryz.sizeOf174, v228 := Tryz.zeroValue174, t229 := Tryz.underlying169, a229 := Tryz.isAgg169,
  z229 := Tryz.sizeOf169, v229 := Tryz.zeroValue169 }
def bl (s : ByteArray) : List UInt8 := s.data.toList
def mkB (l : List UInt8) : ByteArray := ⟨l.toArray⟩
theorem uE (s : ByteArray) : mkB (bl s) = s := by cases s; simp [mkB, bl]
theorem zN (l : List UInt8) : bl (mkB l) = l := by simp [mkB, bl]
def wN (xs : List ByteArray) : List ByteArray := ((xs.map bl).mergeSort fun x y => decide (x ≤ y)).map mkB
def oU (xs : List ByteArray) : List ByteArray := (Lib.compact (xs.map bl)).map mkB
theorem Ky (xs : List ByteArray) : (wN xs).map bl = (xs.map bl).mergeSort fun x y => decide (x ≤ y) := by
 unfold wN; rw [List.map_map, show bl ∘ mkB = id from funext zN, List.map_id]
theorem KE (xs : List ByteArray) : (wN xs).length = xs.length := by unfold wN; rw [List.length_map, List.length_mergeSort, List.length_map]
theorem Y7 (s : ByteArray) : encStr (bl s) = .string s := by
 show Value.string _ = _
 congr 1
theorem zJ {w : World} {base c : Nat} {P : Nat → Prop} {A : Option Addr} {xs : List ByteArray} (h : Kd.R Kd.string 9 w base P (.slice A xs.length c) xs) :
  (A = none ∧ c = 0 ∧ xs = []) ∨ ∃ (g : Nat) (cur : Array Value), A = some ⟨g, 0, none⟩ ∧ P g ∧ base ≤ g ∧ w.heap[g]? = some (.cells cur 9 (0, 0)) ∧ cur.size = c ∧ xs.length ≤ c ∧ c ≤ maxLen ∧ cur.toList.take xs.length = xs.map Value.string := by
 obtain ⟨h0, inner, ho, hr⟩ := h
 obtain ⟨hil, ho⟩ := ho
 rcases ho with ⟨hv, ho⟩ | ⟨gb, cap, cur, hv, hbase, hheap, hncap, hcapm, hcur, htake⟩
 ·injection hv with ha _ hc
  exact .inl ⟨ha, hc, List.length_eq_zero_iff.1 ho⟩
 injection hv with ha _ hc
 subst ha; subst hc
 refine .inr ⟨gb, cur, rfl, h0 gb rfl, hbase, hheap, by rw [hcur]; exact Nat.mul_one _, hncap, hcapm, ?_⟩
 have ht : cur.toList.take xs.length = inner := by rw [← htake]; congr 1; exact (Nat.mul_one _).symm
 rw [ht]
 have hil2 : inner.length = xs.length := by rw [hil]; exact Nat.mul_one _
 refine List.ext_getElem (by rw [List.length_map]; exact hil2) fun j h1 h2 => ?_
 have hM := hr.2 j (xs[j]'(by omega)) (List.getElem?_eq_getElem (by omega))
 have hM2 : (inner.drop (j * 1)).take 1 = [Value.string (xs[j]'(by omega))] := hM
 rw [Nat.mul_one, List.drop_eq_getElem_cons h1, List.take_succ_cons, List.take_zero] at hM2
 rw [List.getElem_map]
 exact (List.cons.inj hM2).1
theorem JS {w : World} {base g c : Nat} {P : Nat → Prop} {ys : List ByteArray} {cs : Array Value} (hP : P g) (hb : base ≤ g) (hh : w.heap[g]? = some (.cells cs 9 (0, 0))) (hs : cs.size = c) (hn : ys.length ≤ c) (hm : c ≤ maxLen) (ht : cs.toList.take ys.length = ys.map Value.string) :
  Kd.R Kd.string 9 w base P (.slice (some ⟨g, 0, none⟩) ys.length c) ys := by
 refine ⟨fun k hk => by (have e : g = k := by simpa [Value.ownBlock] using hk); subst e; exact hP, ys.map Value.string, ⟨?_, ?_⟩, ?_, ?_⟩
 ·rw [List.length_map]; show _ = _ * 1; omega
 ·refine .inr ⟨g, c, cs, rfl, hb, hh, hn, hm, ?_, ?_⟩
  ·show _ = _ * 1; omega
  show List.take (ys.length * 1) _ = _; rw [Nat.mul_one]; exact ht
 ·rw [List.length_map]; show _ = _ * 1; omega
 intro j p hj
 have hjl : j < ys.length := (List.getElem?_eq_some_iff.1 hj).1
 show ((ys.map Value.string).drop (j * 1)).take 1 = [Value.string p]
 rw [Nat.mul_one, List.drop_eq_getElem_cons (by rw [List.length_map]; exact hjl), List.take_succ_cons, List.take_zero, List.getElem_map]
 rw [List.getElem?_eq_getElem hjl] at hj
 rw [Option.some.inj hj]
theorem R3 {w : World} {g : Nat} {cur : Array Value} {xs : List ByteArray} (hh : w.heap[g]? = some (.cells cur 9 (0, 0))) (ht : cur.toList.take xs.length = xs.map Value.string) : Holds encStr w g 0 (xs.map bl).toArray := by
 intro j hj
 have hj2 : j < xs.length := by simpa using hj
 refine ⟨?_, bL hh _⟩
 rw [Nat.zero_add, aH hh j, getElem!_pos _ j hj]
 have e : (cur.toList.take xs.length)[j]? = (xs.map Value.string)[j]? := by rw [ht]
 rw [List.getElem?_take, if_pos hj2, Array.getElem?_toList, List.getElem?_map, List.getElem?_eq_getElem hj2] at e
 rw [e]
 simp [Y7]
theorem Eg {w : World} {g : Nat} {t : TypeId} {cur : Array Value} {F : Array (List UInt8)} (h : w.heap[g]? = some (.cells cur t (0, 0))) : (putRow encStr w g 0 F).heap[g]? = some (.cells (putCells encStr 0 F cur) t (0, 0)) := by
 simp [putRow, mapBlock, Array.getElem?_modify, h, onCells]
theorem Ef {w : World} {g k : Nat} {F : Array (List UInt8)} (h : k ≠ g) : (putRow encStr w g 0 F).heap[k]? = w.heap[k]? := by
 simp [putRow, mapBlock, Array.getElem?_modify, Ne.symm h]
theorem Cg {w : World} {g : Nat} {cur : Array Value} (d : List (List UInt8)) (n : Nat) (os : Array Obj) (hh : w.heap[g]? = some (.cells cur 9 (0, 0))) (hd : d.length ≤ cur.size) :
  ∃ cs : Array Value, (Sort.grow (putRow encStr (Sort.ahead w n) g 0 d.toArray) os).heap[g]? = some (.cells cs 9 (0, 0)) ∧ cs.size = cur.size ∧ cs.toList.take d.length = d.map encStr := by
 have hg : g < w.heap.size := dU hh
 refine ⟨putCells encStr 0 d.toArray cur, ?_, ?_, ?_⟩
 ·show (_ ++ os)[g]? = _
  rw [Array.getElem?_append, if_pos (by rw [size_putRow]; exact hg)]
  exact Eg (w := Sort.ahead w n) hh
 ·unfold putCells; simp
 refine List.ext_getElem? fun j => ?_
 by_cases hj : j < d.length
 ·rw [List.getElem?_take, if_pos hj, Array.getElem?_toList, List.getElem?_map, List.getElem?_eq_getElem hj]
  have hjc : j < cur.size := by omega
  unfold putCells
  rw [Array.getElem?_mapIdx, Array.getElem?_eq_getElem hjc]
  simp [hj]
 rw [List.getElem?_eq_none (by rw [List.length_take]; omega), List.getElem?_eq_none (by rw [List.length_map]; omega)]
theorem OT (w : World) (g n : Nat) (d : Array (List UInt8)) (os : Array Obj) : Kept w (Sort.grow (putRow encStr (Sort.ahead w n) g 0 d) os) (fun k => k = g) := by
 refine ⟨?_, fun k hk hne => ?_⟩
 ·show _ ≤ (_ ++ os).size; rw [Array.size_append, size_putRow]; exact Nat.le_add_right _ _
 show (_ ++ os)[k]? = _
 rw [Array.getElem?_append, if_pos (by rw [size_putRow]; exact hk)]
 exact Ef (w := Sort.ahead w n) hne
theorem RL {w0 w : World} {g : Nat} (n : Nat) (d : Array (List UInt8)) (os : Array Obj) (hB : Go.RowKit.Below w0.heap.size w0 w) (hb : w0.heap.size ≤ g) : Go.RowKit.Below w0.heap.size w0 (Sort.grow (putRow encStr (Sort.ahead w n) g 0 d) os) := by
 have hk := OT w g n d os
 exact ⟨hB.os, hB.tape, hB.output, Nat.le_trans hB.size hk.1, fun k hk2 => by rw [hk.2 k (Nat.lt_of_lt_of_le hk2 hB.size) (by omega)]; exact hB.block k hk2⟩
theorem Yf {w0 w : World} {c : Nat} {P : Nat → Prop} {A : Option Addr} {xs : List ByteArray} (h : Kd.R Kd.string 9 w w0.heap.size P (.slice A xs.length c) xs) (hB : Go.RowKit.Below w0.heap.size w0 w) (hl : xs.length < 4611686018427387904) :
  Calls Tryz.prog 75 #[.slice A xs.length c] w fun e w' => e = .returned (.tuple #[]) ∧ Kd.R Kd.string 9 w' w0.heap.size P (.slice A xs.length c) (wN xs) ∧ Go.RowKit.Below w0.heap.size w0 w' ∧ Kept w w' P := by
 rcases zJ h with ⟨rfl, rfl, rfl⟩ | ⟨g, cur, rfl, hP, hb, hh, hs, hn, hm, ht⟩
 ·have hS := Any.sort_Strings_none WS none 0 w
  change Calls Tryz.prog 75 _ _ _ at hS
  refine hS.mono ?_
  rintro e w' ⟨rfl, rfl⟩
  have e0 : wN [] = [] := by simp [wN]
  rw [e0]
  exact ⟨rfl, Kd.oQ _ _ _ _ _, hB, Kept.refl _ _⟩
 have hS := Any.sort_Strings WS g 0 c (xs.map bl) w (R3 hh ht) (dU hh) (by rw [List.length_map]; exact hl)
 change Calls Tryz.prog 75 _ _ _ at hS
 rw [List.length_map] at hS
 refine hS.mono ?_
 rintro e w' ⟨rfl, n, os, rfl⟩
 rw [← Ky]
 obtain ⟨cs, q1, q2, q3⟩ := Cg ((wN xs).map bl) n os hh (by rw [List.length_map, KE]; omega)
 refine ⟨rfl, ?_, RL _ _ _ hB hb, Kept.mono (OT _ _ _ _ _) (fun k e => e ▸ hP)⟩
 have := JS (ys := wN xs) hP hb q1 (q2.trans hs) (by rw [KE]; exact hn) hm (by rw [List.length_map] at q3; rw [q3, List.map_map]; exact List.map_congr_left (fun s _ => Y7 s))
 rwa [KE] at this
theorem Il (xs : List ByteArray) : (oU xs).map bl = Lib.compact (xs.map bl) := by
 unfold oU; rw [List.map_map, show bl ∘ mkB = id from funext zN, List.map_id]
theorem QW (xs : List ByteArray) : (oU xs).length = (Lib.compact (xs.map bl)).length := by unfold oU; rw [List.length_map]
theorem Dl {w0 w : World} {c : Nat} {P : Nat → Prop} {A : Option Addr} {xs : List ByteArray} (h : Kd.R Kd.string 9 w w0.heap.size P (.slice A xs.length c) xs) (hB : Go.RowKit.Below w0.heap.size w0 w) :
  Calls Tryz.prog 76 #[.slice A xs.length c] w fun e w' => e = .returned (.slice A (oU xs).length c) ∧ Kd.R Kd.string 9 w' w0.heap.size P (.slice A (oU xs).length c) (oU xs) ∧ Go.RowKit.Below w0.heap.size w0 w' ∧ Kept w w' P := by
 have hbig : xs.length ≤ 9223372036854775807 := (Kd.bI h).2.2.2.1
 rcases zJ h with ⟨rfl, rfl, rfl⟩ | ⟨g, cur, rfl, hP, hb, hh, hs, hn, hm, ht⟩
 ·have hS := Any.slices_Compact_string_empty WP none 0 w
  change Calls Tryz.prog 76 _ _ _ at hS
  refine hS.mono ?_
  rintro e w' ⟨rfl, rfl⟩
  have e0 : oU [] = [] := by simp [oU, Lib.compact, Lib.compactUpTo]
  rw [e0]
  exact ⟨rfl, Kd.oQ _ _ _ _ _, hB, Kept.refl _ _⟩
 have hle := Lib.compact_length_le (xs.map bl)
 rw [List.length_map, ← QW] at hle
 have hS := Any.slices_Compact_string WP g 0 c (xs.map bl) w (R3 hh ht) (by rw [List.length_map]; exact hbig) (by rw [List.length_map]; exact hn)
 change Calls Tryz.prog 76 _ _ _ at hS
 rw [List.length_map] at hS
 refine hS.mono ?_
 rintro e w' ⟨rfl, n, rfl⟩
 rw [← QW, ← Il]
 obtain ⟨cs, q1, q2, q3⟩ := Cg ((oU xs).map bl ++ List.replicate (xs.length - (oU xs).length) []) n #[] hh (by rw [List.length_append, List.length_map, List.length_replicate]; omega)
 rw [Sort.grow_empty] at q1
 have k1 := OT w g n ((oU xs).map bl ++ List.replicate (xs.length - (oU xs).length) []).toArray #[]
 have k2 := RL n ((oU xs).map bl ++ List.replicate (xs.length - (oU xs).length) []).toArray #[] hB hb
 rw [Sort.grow_empty] at k1 k2
 refine ⟨rfl, JS (ys := oU xs) hP hb q1 (q2.trans hs) (by omega) hm ?_, k2, Kept.mono k1 (fun k e => e ▸ hP)⟩
 have q4 : (cs.toList.take ((oU xs).map bl ++ List.replicate (xs.length - (oU xs).length) []).length).take (oU xs).length = _ := congrArg (List.take (oU xs).length) q3
 rw [List.take_take, List.length_append, List.length_map, Nat.min_eq_left (Nat.le_add_right _ _), List.map_append, List.take_append_of_le_length (by rw [List.length_map, List.length_map]; exact Nat.le_refl _)] at q4
 rw [q4, List.take_of_length_le (by rw [List.length_map, List.length_map]; exact Nat.le_refl _), List.map_map]
 exact List.map_congr_left (fun s _ => Y7 s)
def cK.l0 : Nat → List ByteArray → ByteArray → Int → Option (List ByteArray)
 | 0, _, _, _ => none
 | k + 1, b, c, a => if a < (b.length : Int) then (if 0 ≤ a then (if (Op.bytesLess ((rdOf ByteArray.empty b a).toList) c.toList) = true then (cK.l0 k b c (wrap64 (a + 1))) else (if (rdOf ByteArray.empty b a).toList = c.toList then (none) else ((some (([] : List ByteArray) : List ByteArray)).bind fun d => (if a ≤ (b.length : Int) then (if d.length + (b.take (a : Int).toNat).length < 8796093022208 then ((some (d ++ (b.take (a : Int).toNat) : List ByteArray)).bind fun e => ((some (([c] : List ByteArray) : List ByteArray)).bind fun f => (if e.length + f.length < 8796093022208 then ((some (e ++ f : List ByteArray)).bind fun g => (if g.length + (b.drop (a : Int).toNat).length < 8796093022208 then (some (g ++ (b.drop (a : Int).toNat))) else (none))) else (none)))) else (none)) else (none))))) else (none)) else ((some (([] : List ByteArray) : List ByteArray)).bind fun h => (if 0 ≤ a then (if a ≤ (b.length : Int) then (if h.length + (b.take (a : Int).toNat).length < 8796093022208 then ((some (h ++ (b.take (a : Int).toNat) : List ByteArray)).bind fun i => ((some (([c] : List ByteArray) : List ByteArray)).bind fun j => (if i.length + j.length < 8796093022208 then ((some (i ++ j : List ByteArray)).bind fun l => (if l.length + (b.drop (a : Int).toNat).length < 8796093022208 then (some (l ++ (b.drop (a : Int).toNat))) else (none))) else (none)))) else (none)) else (none)) else (none)))
def cK.f (k : Nat) (l0 : List ByteArray) (a1 : ByteArray) : Option (List ByteArray) := cK.l0 k l0 a1 0
def cK.T6 : Bool × List (List Nat × List Nat) := (true, [([], []), ([], []), ([], []), ([1, 2], [1, 2]), ([0, 3], [0, 3]), ([], []), ([5], [5]), ([4, 6, 4], [4, 6]), ([], []), ([], []), ([8, 9], [8, 9]), ([7, 10, 7], [7, 10]), ([11, 11, 0, 1, 2, 3, 4, 5, 6, 7, 8, 9, 10, 11], [11])])
def cK.B6 : List Nat := [0, 0, 0, 6, 15, 0, 32, 127, 0, 0, 768, 2047, 4095]
theorem cK.tab6 : rtab .any (opsOf Tryz.f57 6) = cK.T6 := by kernel_rfl
theorem cK.I1 : nV cK.T6.2 cK.B6 = true := by kernel_rfl
theorem cK.calls (k : Nat) (A0 : Option Addr) (c0 : Nat) (l0 : List ByteArray) (a1 : ByteArray) (r : List ByteArray) (w : World) (mO : Kd.C Kd.string w A0 l0.length l0) (nE : l0.length ≤ c0) (h : cK.f k l0 a1 = some r) :
  Calls Tryz.prog 57 #[.slice A0 l0.length c0, .string a1] w fun e w' => ∃ v0_ : Value, e = .returned (v0_) ∧ Kd.R Kd.string 9 w' w.heap.size (fun _ => True) v0_ r ∧ Below w.heap.size w w' := by
 obtain ⟨lH, uR⟩ := mZ2 mO nE
 clear mO nE
 have HB := am (Below.refl w.heap.size w)
 unfold cK.f at h
 have H := h
 clear h
 have H' := am H
 repeat clear H
 go_enter Tryz.func57, Tryz.ntmps57
 go_wp2
 go_loopg [5] k (fun kq v5 w' => ∃ (dK : Int), v5 = .int .i64 dK ∧ aD (cK.l0 kq l0 a1 dK = some r) ∧ aD (kq ≤ k) ∧ aD (Below w.heap.size w w'))
 case atStart => exact ⟨(0), eS, H', ⟨Nat.le_refl _⟩, ⟨gL⟩⟩
 clear H'
 obtain ⟨dK, rfl, HA, HK1, HB⟩ := hrel
 cases gk with
 | zero => exact absurd HA.out (by simp [cK.l0])
 | succ k1 =>
  have H := HA.out
  clear HA
  simp only [cK.l0] at H
  refine ic H ?_ ?_ <;> clear H <;> intro FP H
  ·obtain ⟨zQ, H⟩ := cN H
   refine tC H ?_ ?_ <;> clear H <;> intro AZ H
   ·have H' := am H
    repeat clear H
    obtain ⟨jK, nD, kW, xZ, y6⟩ := aS lH HB dK
    cases nD
    go_wp2
    go_roundg k1
    case measure => have := HK1.out; omega
    case rel => exact ⟨(wrap64 (dK + 1)), eS, H', ⟨by have := HK1.out; omega⟩, ⟨gL⟩⟩
   ·refine iq H ?_ ?_ <;> clear H <;> intro c6 CC VO H
    ·cases H
    ·obtain ⟨PJ, hy103⟩ : ∃ y_ : List ByteArray, y_ = (([] : List ByteArray)) := ⟨_, rfl⟩
     replace H : (if dK ≤ (l0.length : Int) then (if PJ.length + (l0.take (dK : Int).toNat).length < 8796093022208 then ((some (PJ ++ (l0.take (dK : Int).toNat) : List ByteArray)).bind fun UY => ((some (([a1] : List ByteArray) : List ByteArray)).bind fun DK => (if UY.length + DK.length < 8796093022208 then ((some (UY ++ DK : List ByteArray)).bind fun Lu => (if Lu.length + (l0.drop (dK : Int).toNat).length < 8796093022208 then (some (Lu ++ (l0.drop (dK : Int).toNat))) else (none))) else (none)))) else (none)) else (none)) = some r := by first | (rw [hy103]; with_reducible exact H) | (have H2_ := (Option.bind_some _ _).symm.trans H; rw [hy103]; with_reducible exact H2_) | (have H2_ := (Option.bind_some _ _).symm.trans H; with_reducible exact H2_) | with_reducible exact H | (rw [hy103]; exact H) | exact H
     have QP := am hy103
     clear hy103
     have NV := eq_true (oT : 0 ≤ dK)
     obtain ⟨EH, gj, H⟩ := cP H
     obtain ⟨Ue, H⟩ := cL H
     obtain ⟨UY, H4, H⟩ := bY H
     obtain ⟨DK, QQ, H⟩ := bY H
     obtain ⟨ag, H⟩ := cL H
     obtain ⟨Lu, co, H⟩ := bY H
     have C9 := eq_true (oT : 0 ≤ dK)
     have NT := eq_true (oT : dK ≤ (l0.length : Int))
     obtain ⟨ai, H⟩ := cL H
     obtain ⟨a7U, Gt⟩ := yv (Lu ++ (l0.drop (dK : Int).toNat)); first | replace H := bW Gt H | rw [← Gt.1] at H
     obtain rfl := Option.some.inj H
     repeat clear H
     obtain ⟨jK, nD, kW, xZ, y6⟩ := aS lH HB dK
     cases nD
     obtain ⟨n9, rT, o9, EJ, EL⟩ := aS lH HB dK
     obtain rfl : jK = n9 := (by injection rT)
     try go_wp2
     replace HB := am (aU HB.1)
     obtain ⟨i015, Ry, _, hsz15, _⟩ := info_parts jP
     obtain ⟨hcut15, hA15, hC15⟩ := F4 (P := Tryz.prog) Value.string (⟨#[]⟩ : ByteArray) 27 9 .i64 Tryz.underlying27 Ry hsz15 (some jK) c0 l0 dK (oT) (oT) uR.1
     have Aa := am (Kd.AU (h1 := fun _ => rfl) (hA15 _ (Kd.xU lH.1)))
     have tw := am hC15
     clear hA15 hC15 Ry hsz15
     obtain ⟨i016, Rz, _, hsz16, _⟩ := info_parts jP
     obtain ⟨V0, hcut16, hA16, hC16⟩ := F3 (P := Tryz.prog) Value.string (⟨#[]⟩ : ByteArray) 27 9 .i64 Tryz.underlying27 Rz hsz16 (some jK) c0 l0 dK (oT) (oT) uR.1
     have Ge := am (Kd.AU (h1 := fun _ => rfl) (hA16 _ (Kd.xU lH.1)))
     have tz := am hC16
     clear hA16 hC16 Rz hsz16
     refine sT (S := fun w' => True) [] 13 ⟨trivial⟩ (fun hHeld => ?_)
     refine gH cK.tab6 cK.I1 (fun HT_ HW_ => ?_)
     generalize wr.drew = Yu at HB Aa Ge hHeld ⊢
     refine pU7 1 2 3 5 8 9 10 ?_
     refine Bw (σ := Value × Value × Value) 3 (bz 13 1919) (fun s_ => [(33, s_.1), (37, s_.2.1), (39, s_.2.2)]) (fun s_ w' => (Kd.R Kd.string 9 w' w.heap.size (fun k_ => some k_ ≠ (s_.2.2 : Value).ownBlock) s_.2.1 UY) ∧ (Kd.R Kd.string 9 w' w.heap.size (fun k_ => some k_ ≠ (s_.2.1 : Value).ownBlock) s_.2.2 DK) ∧ (Below w.heap.size w w')) ?_ ?_
     rotate_left
     ·intro hCont
      refine two_ (i := 0) (j := 6) (Ni := some 33) (Nj := some 39) (bz 13 1839) (bz 13 1902) rfl rfl rfl rfl (UV HT_.out (by kernel_rfl)) (by decide) (by decide) (fun K hK => ?_) (fun K hK => ?_)
      ·skip
       refine lT 9 33 QP ?_
       intro LX tf Jc hb
       have qD := am (Kd.eF Jc (aK gL))
       replace HB := bS gL hb
       clear hb Jc
       refine hK.out _ _ trivial (fun hHeld => ?_)
       clear hK K
       refine nM ?_
       refine two_ (i := 4) (j := 6) (Ni := some 37) (Nj := some 39) (bz 13 1855) (bz 13 1903) rfl rfl rfl rfl (UV HT_.out (by kernel_rfl)) (by decide) (by decide) (fun K hK => ?_) (fun K hK => ?_)
       ·skip
        refine Kd.iF Kd.string (w0 := w) w.heap.size (by rfl) (.tmp 33) (.tmp 36) 27 9 (.string ⟨#[]⟩) 16 rfl Tryz.underlying27 jP rfl (by decide) (by omega) LX PJ (l0.take (dK : Int).toNat) _ _ _ (fun _ => True) (fun _ => False) rfl rfl ?aO ?aR (fun _ _ h => h) (fun _ h => h.elim) ?aF ?aB ?aS ?aL ?_
        (case aR => (have e_ : (l0.take (dK : Int).toNat).length = dK.toNat := (by rw [List.length_take]; have h_ : (dK : Int) ≤ (l0.length : Int) := oT; omega); have q_ := Kd.aM Aa.1 HB.1; rw [e_] at q_; exact q_))
        (case aB => exact gL)
        (case aF => exact (fun _ _ => trivial))
        (case aO => exact (rR qD.1))
        (case aS => exact (aK gL))
        (case aL => have := Ue.out; have hlx_ := (show (l0.take (dK : Int).toNat).length = dK.toNat from (by rw [List.length_take]; have h_ : (dK : Int) ≤ (l0.length : Int) := oT; omega)); omega)
        intro CG w19 ho hb hg hat
        rw [← H4.out] at ho
        replace HB := am hb
        have eU := am ho
        clear qD
        clear ho hb hg hat
        refine hK.out _ _ trivial (fun hHeld => ?_)
        clear hK K
        refine nM ?_
        refine oN 6 (some 39) fun K hK => ?_
        refine lT 9 39 QQ ?_
        intro LY Li Xf hb
        have sQ := am (Kd.eF (Kd.jQ Xf (Kd.R_lt (rR eU.1))) (aK gL))
        replace eU := am (Kd.gZ (rR eU.1) (Kd.eO Xf) hb)
        replace HB := bS gL hb
        clear hb Xf
        refine hK.out _ _ trivial (fun hHeld => ?_)
        clear hK K
        refine nM ?_
        exact uN LS (hCont (LX, CG, LY) _ ⟨(by refine rR ?_; exact Kd.bG eU.1 (fun _ hk => hk.2)), (by refine rR ?_; exact Kd.bG sQ.1 (fun _ hk => hk.2)), gL⟩)
       ·skip
        refine lT 9 39 QQ ?_
        intro LY w19 YG hb
        have sQ := am (Kd.eF (Kd.jQ YG (Kd.R_lt (rR qD.1))) (aK gL))
        replace qD := am (Kd.gZ (rR qD.1) (Kd.eO YG) hb)
        replace HB := bS gL hb
        clear hb YG
        refine hK.out _ _ trivial (fun hHeld => ?_)
        clear hK K
        refine nM ?_
        refine oN 4 (some 37) fun K hK => ?_
        refine Kd.iF Kd.string (w0 := w) w.heap.size (by rfl) (.tmp 33) (.tmp 36) 27 9 (.string ⟨#[]⟩) 16 rfl Tryz.underlying27 jP rfl (by decide) (by omega) LX PJ (l0.take (dK : Int).toNat) _ _ _ (fun k_ => some k_ ≠ (LY : Value).ownBlock) (fun _ => False) rfl rfl ?aO ?aR (fun _ _ h => h) (fun _ h => h.elim) ?aF ?aB ?aS ?aL ?_
        (case aR => (have e_ : (l0.take (dK : Int).toNat).length = dK.toNat := (by rw [List.length_take]; have h_ : (dK : Int) ≤ (l0.length : Int) := oT; omega); have q_ := Kd.aM Aa.1 HB.1; rw [e_] at q_; exact q_))
        (case aB => exact gL)
        (case aF => exact (fun k_ hk => Kd.fresh' (Kd.R_lt UH) k_ hk))
        (case aO => exact (by refine rR ?_; exact Kd.bG qD.1 (fun _ hk => hk.2)))
        (case aS => exact (aK gL))
        (case aL => have := Ue.out; have hlx_ := (show (l0.take (dK : Int).toNat).length = dK.toNat from (by rw [List.length_take]; have h_ : (dK : Int) ≤ (l0.length : Int) := oT; omega)); omega)
        intro CG ml ho hb hg hat
        rw [← H4.out] at ho
        replace sQ := am (Kd.r9 (ok := (fun _ => True)) UH hg hat)
        replace HB := am hb
        have eU := am ho
        clear qD
        clear ho hb hg hat
        refine hK.out _ _ trivial (fun hHeld => ?_)
        clear hK K
        refine nM ?_
        exact uN LS (hCont (LX, CG, LY) _ ⟨(rR eU.1), (by refine rR ?_; exact Kd.bG sQ.1 (fun _ hk => hk.2)), gL⟩)
      ·skip
       refine lT 9 39 QQ ?_
       intro LY tf Jc hb
       have sQ := am (Kd.eF Jc (aK gL))
       replace HB := bS gL hb
       clear hb Jc
       refine hK.out _ _ trivial (fun hHeld => ?_)
       clear hK K
       refine nM ?_
       refine oN 0 (some 33) fun K hK => ?_
       refine lT 9 33 QP ?_
       intro LX w19 YG hb
       have qD := am (Kd.eF (Kd.jQ YG (Kd.R_lt UH)) (aK gL))
       replace sQ := am (Kd.gZ UH (Kd.eO YG) hb)
       replace HB := bS gL hb
       clear hb YG
       refine hK.out _ _ trivial (fun hHeld => ?_)
       clear hK K
       refine nM ?_
       refine oN 4 (some 37) fun K hK => ?_
       refine Kd.iF Kd.string (w0 := w) w.heap.size (by rfl) (.tmp 33) (.tmp 36) 27 9 (.string ⟨#[]⟩) 16 rfl Tryz.underlying27 jP rfl (by decide) (by omega) LX PJ (l0.take (dK : Int).toNat) _ _ _ (fun k_ => some k_ ≠ (LY : Value).ownBlock) (fun _ => False) rfl rfl ?aO ?aR (fun _ _ h => h) (fun _ h => h.elim) ?aF ?aB ?aS ?aL ?_
       (case aR => (have e_ : (l0.take (dK : Int).toNat).length = dK.toNat := (by rw [List.length_take]; have h_ : (dK : Int) ≤ (l0.length : Int) := oT; omega); have q_ := Kd.aM Aa.1 HB.1; rw [e_] at q_; exact q_))
       (case aB => exact gL)
       (case aF => exact (fun k_ hk => Kd.fresh' (Kd.R_lt UH) k_ hk))
       (case aO => exact (by refine rR ?_; exact Kd.bG qD.1 (fun _ hk => hk.2)))
       (case aS => exact (aK gL))
       (case aL => have := Ue.out; have hlx_ := (show (l0.take (dK : Int).toNat).length = dK.toNat from (by rw [List.length_take]; have h_ : (dK : Int) ≤ (l0.length : Int) := oT; omega)); omega)
       intro CG ml ho hb hg hat
       rw [← H4.out] at ho
       replace sQ := am (Kd.r9 (ok := (fun _ => True)) UH hg hat)
       replace HB := am hb
       have eU := am ho
       clear qD
       clear ho hb hg hat
       refine hK.out _ _ trivial (fun hHeld => ?_)
       clear hK K
       refine nM ?_
       exact uN LS (hCont (LX, CG, LY) _ ⟨(rR eU.1), (by refine rR ?_; exact Kd.bG sQ.1 (fun _ hk => hk.2)), gL⟩)
     rintro ⟨LX, CG, LY⟩ Ss ⟨h0_, h1_, h2_⟩
     have eU : aD (Kd.R Kd.string 9 Ss w.heap.size (fun k_ => some k_ ≠ (LY : Value).ownBlock) CG UY) := ⟨h0_⟩
     have sQ : aD (Kd.R Kd.string 9 Ss w.heap.size (fun k_ => some k_ ≠ (CG : Value).ownBlock) LY DK) := ⟨h1_⟩
     replace HB : aD (Below w.heap.size w Ss) := ⟨h2_⟩
     clear h0_ h1_ h2_
     have hHeld := trivial
     obtain ⟨Fi, Ij, Is⟩ := Kd.cB sQ.1
     (first | subst Is | (obtain ⟨f4_, f5_⟩ := sj Is; subst f4_; subst f5_))
     refine uN (a' := ?_) ?_ ?_
     rotate_left
     ·simp only [D7, Act.put, List.setIfInBounds_toArray, List.set_cons_zero, List.set_cons_succ]
      rfl
     refine oN 7 (some 40) fun K hK => ?_
     refine Kd.iF Kd.string (w0 := w) w.heap.size (by rfl) (.tmp 37) (.tmp 39) 27 9 (.string ⟨#[]⟩) 16 rfl Tryz.underlying27 jP rfl (by decide) (by omega) CG UY DK _ _ _ (fun k_ => some k_ ≠ (.slice Fi DK.length Ij : Value).ownBlock) (fun _ => False) rfl rfl ?aO ?aR (fun _ _ h => h) (fun _ h => h.elim) ?aF ?aB ?aS ?aL ?_
     (case aR => repeat (first | exact (Kd.bI sQ.1).2.2 | (with_reducible refine Kd.l7 ?_ _) | (with_reducible refine Kd.l8 ?_ _) | (with_reducible refine Kd.mK ?_)))
     (case aB => exact gL)
     (case aF => exact (fun k_ hk => Kd.fresh' (Kd.R_lt UH) k_ hk))
     (case aO => exact (rR eU.1))
     (case aS => exact (aK gL))
     (case aL => have := ag.out; omega)
     intro ka tg ho hb hg hat
     rw [← co.out] at ho
     replace sQ := am (Kd.r9 (ok := (fun _ => True)) (by refine rR ?_; exact Kd.bG sQ.1 (fun _ hk => ⟨trivial, hk⟩)) hg hat)
     replace HB := am hb
     have KM := am ho
     clear eU
     clear ho hb hg hat
     refine hK.out _ _ trivial (fun hHeld => ?_)
     clear hK K
     refine nM ?_
     refine oN 11 (some 44) fun K hK => ?_
     refine Kd.iF Kd.string (w0 := w) w.heap.size (by rfl) (.tmp 40) (.tmp 43) 27 9 (.string ⟨#[]⟩) 16 rfl Tryz.underlying27 jP rfl (by decide) (by omega) ka Lu (l0.drop (dK : Int).toNat) _ _ _ (fun k_ => some k_ ≠ (.slice Fi DK.length Ij : Value).ownBlock) (fun _ => False) rfl rfl ?aO ?aR (fun _ _ h => h) (fun _ h => h.elim) ?aF ?aB ?aS ?aL ?_
     (case aR => first | (rw [← show (l0.drop (dK : Int).toNat).length = (l0.length - dK.toNat) from List.length_drop]; repeat (first | exact (Kd.aM Ge.1 HB.1) | (with_reducible refine Kd.l7 ?_ _) | (with_reducible refine Kd.l8 ?_ _) | (with_reducible refine Kd.mK ?_))) | (repeat (first | exact (Kd.aM Ge.1 HB.1) | (with_reducible refine Kd.l7 ?_ _) | (with_reducible refine Kd.l8 ?_ _) | (with_reducible refine Kd.mK ?_))))
     (case aB => exact gL)
     (case aF => exact (fun k_ hk => Kd.fresh' (Kd.R_lt UH) k_ hk))
     (case aO => exact (rR KM.1))
     (case aS => exact (aK gL))
     (case aL => have := ai.out; have hlx_ := (show (l0.drop (dK : Int).toNat).length = (l0.length - dK.toNat) from List.length_drop); omega)
     intro sm Py ho hb hg hat
     rw [← Gt.out] at ho
     replace sQ := am (Kd.r9 (ok := (fun _ => True)) UH hg hat)
     replace HB := am hb
     have iN := am ho
     clear KM
     clear ho hb hg hat
     refine hK.out _ _ trivial (fun hHeld => ?_)
     clear hK K
     refine nM ?_
     refine pU1 12 ?_
     refine dN ?_
     try go_wp2
     go_ret
     exact ⟨_, eR, by refine rR ?_; exact Kd.bG iN.1 (fun _ hk => trivial), gL⟩
  ·obtain ⟨KI, hy120⟩ : ∃ y_ : List ByteArray, y_ = (([] : List ByteArray)) := ⟨_, rfl⟩
   replace H : (if 0 ≤ dK then (if dK ≤ (l0.length : Int) then (if KI.length + (l0.take (dK : Int).toNat).length < 8796093022208 then ((some (KI ++ (l0.take (dK : Int).toNat) : List ByteArray)).bind fun Fa => ((some (([a1] : List ByteArray) : List ByteArray)).bind fun QD => (if Fa.length + QD.length < 8796093022208 then ((some (Fa ++ QD : List ByteArray)).bind fun PK => (if PK.length + (l0.drop (dK : Int).toNat).length < 8796093022208 then (some (PK ++ (l0.drop (dK : Int).toNat))) else (none))) else (none)))) else (none)) else (none)) else (none)) = some r := by first | (rw [hy120]; with_reducible exact H) | (have H2_ := (Option.bind_some _ _).symm.trans H; rw [hy120]; with_reducible exact H2_) | (have H2_ := (Option.bind_some _ _).symm.trans H; with_reducible exact H2_) | with_reducible exact H | (rw [hy120]; exact H) | exact H
   have Ak := am hy120
   clear hy120
   obtain ⟨NU, fu, H⟩ := cP H
   obtain ⟨KX, yk, H⟩ := cP H
   obtain ⟨Gj, H⟩ := cL H
   obtain ⟨Fa, Gu, H⟩ := bY H
   obtain ⟨QD, NI, H⟩ := bY H
   obtain ⟨ao, H⟩ := cL H
   obtain ⟨PK, V8, H⟩ := bY H
   have fx := eq_true (oT : 0 ≤ dK)
   have yn := eq_true (oT : dK ≤ (l0.length : Int))
   obtain ⟨ap, H⟩ := cL H
   obtain ⟨a7V, Gw⟩ := yv (PK ++ (l0.drop (dK : Int).toNat)); first | replace H := bW Gw H | rw [← Gw.1] at H
   obtain rfl := Option.some.inj H
   repeat clear H
   try go_wp2
   replace HB := am (aU HB.1)
   obtain ⟨i034, Sa, _, hsz34, _⟩ := info_parts jP
   obtain ⟨hcut34, hA34, hC34⟩ := F4 (P := Tryz.prog) Value.string (⟨#[]⟩ : ByteArray) 27 9 .i64 Tryz.underlying27 Sa hsz34 A0 c0 l0 dK (oT) (oT) uR.1
   have Ad := am (Kd.AU (h1 := fun _ => rfl) (hA34 _ (Kd.xU lH.1)))
   have uc := am hC34
   clear hA34 hC34 Sa hsz34
   obtain ⟨i035, Sb, _, hsz35, _⟩ := info_parts jP
   obtain ⟨A35, hcut35, hA35, hC35⟩ := F3 (P := Tryz.prog) Value.string (⟨#[]⟩ : ByteArray) 27 9 .i64 Tryz.underlying27 Sb hsz35 A0 c0 l0 dK (oT) (oT) uR.1
   have Gf := am (Kd.AU (h1 := fun _ => rfl) (hA35 _ (Kd.xU lH.1)))
   have ue := am hC35
   clear hA35 hC35 Sb hsz35
   refine sT (S := fun w' => True) [] 13 ⟨trivial⟩ (fun hHeld => ?_)
   refine gH cK.tab6 cK.I1 (fun HT_ HW_ => ?_)
   generalize wr.drew = w33 at HB Ad Gf hHeld ⊢
   refine pU7 1 2 3 5 8 9 10 ?_
   refine Bw (σ := Value × Value × Value) 3 (bz 13 1919) (fun s_ => [(33, s_.1), (37, s_.2.1), (39, s_.2.2)]) (fun s_ w' => (Kd.R Kd.string 9 w' w.heap.size (fun k_ => some k_ ≠ (s_.2.2 : Value).ownBlock) s_.2.1 Fa) ∧ (Kd.R Kd.string 9 w' w.heap.size (fun k_ => some k_ ≠ (s_.2.1 : Value).ownBlock) s_.2.2 QD) ∧ (Below w.heap.size w w')) ?_ ?_
   rotate_left
   ·intro hCont
    refine two_ (i := 0) (j := 6) (Ni := some 33) (Nj := some 39) (bz 13 1839) (bz 13 1902) rfl rfl rfl rfl (UV HT_.out (by kernel_rfl)) (by decide) (by decide) (fun K hK => ?_) (fun K hK => ?_)
    ·skip
     refine lT 9 33 Ak ?_
     intro KH Zb Jd hb
     have eA := am (Kd.eF Jd (aK gL))
     replace HB := bS gL hb
     clear hb Jd
     refine hK.out _ _ trivial (fun hHeld => ?_)
     clear hK K
     refine nM ?_
     refine two_ (i := 4) (j := 6) (Ni := some 37) (Nj := some 39) (bz 13 1855) (bz 13 1903) rfl rfl rfl rfl (UV HT_.out (by kernel_rfl)) (by decide) (by decide) (fun K hK => ?_) (fun K hK => ?_)
     ·skip
      refine Kd.iF Kd.string (w0 := w) w.heap.size (by rfl) (.tmp 33) (.tmp 36) 27 9 (.string ⟨#[]⟩) 16 rfl Tryz.underlying27 jP rfl (by decide) (by omega) KH KI (l0.take (dK : Int).toNat) _ _ _ (fun _ => True) (fun _ => False) rfl rfl ?aO ?aR (fun _ _ h => h) (fun _ h => h.elim) ?aF ?aB ?aS ?aL ?_
      (case aR => (have e_ : (l0.take (dK : Int).toNat).length = dK.toNat := (by rw [List.length_take]; have h_ : (dK : Int) ≤ (l0.length : Int) := oT; omega); have q_ := Kd.aM Ad.1 HB.1; rw [e_] at q_; exact q_))
      (case aB => exact gL)
      (case aF => exact (fun _ _ => trivial))
      (case aO => exact (rR eA.1))
      (case aS => exact (aK gL))
      (case aL => have := Gj.out; have hlx_ := (show (l0.take (dK : Int).toNat).length = dK.toNat from (by rw [List.length_take]; have h_ : (dK : Int) ≤ (l0.length : Int) := oT; omega)); omega)
      intro EN mo ho hb hg hat
      rw [← Gu.out] at ho
      replace HB := am hb
      have yC := am ho
      clear eA
      clear ho hb hg hat
      refine hK.out _ _ trivial (fun hHeld => ?_)
      clear hK K
      refine nM ?_
      refine oN 6 (some 39) fun K hK => ?_
      refine lT 9 39 NI ?_
      intro Q8 mq Xh hb
      have xE := am (Kd.eF (Kd.jQ Xh (Kd.R_lt (rR yC.1))) (aK gL))
      replace yC := am (Kd.gZ (rR yC.1) (Kd.eO Xh) hb)
      replace HB := bS gL hb
      clear hb Xh
      refine hK.out _ _ trivial (fun hHeld => ?_)
      clear hK K
      refine nM ?_
      exact uN LS (hCont (KH, EN, Q8) _ ⟨(by refine rR ?_; exact Kd.bG yC.1 (fun _ hk => hk.2)), (by refine rR ?_; exact Kd.bG xE.1 (fun _ hk => hk.2)), gL⟩)
     ·skip
      refine lT 9 39 NI ?_
      intro Q8 mo YH hb
      have xE := am (Kd.eF (Kd.jQ YH (Kd.R_lt (rR eA.1))) (aK gL))
      replace eA := am (Kd.gZ (rR eA.1) (Kd.eO YH) hb)
      replace HB := bS gL hb
      clear hb YH
      refine hK.out _ _ trivial (fun hHeld => ?_)
      clear hK K
      refine nM ?_
      refine oN 4 (some 37) fun K hK => ?_
      refine Kd.iF Kd.string (w0 := w) w.heap.size (by rfl) (.tmp 33) (.tmp 36) 27 9 (.string ⟨#[]⟩) 16 rfl Tryz.underlying27 jP rfl (by decide) (by omega) KH KI (l0.take (dK : Int).toNat) _ _ _ (fun k_ => some k_ ≠ (Q8 : Value).ownBlock) (fun _ => False) rfl rfl ?aO ?aR (fun _ _ h => h) (fun _ h => h.elim) ?aF ?aB ?aS ?aL ?_
      (case aR => (have e_ : (l0.take (dK : Int).toNat).length = dK.toNat := (by rw [List.length_take]; have h_ : (dK : Int) ≤ (l0.length : Int) := oT; omega); have q_ := Kd.aM Ad.1 HB.1; rw [e_] at q_; exact q_))
      (case aB => exact gL)
      (case aF => exact (fun k_ hk => Kd.fresh' (Kd.R_lt UI) k_ hk))
      (case aO => exact (by refine rR ?_; exact Kd.bG eA.1 (fun _ hk => hk.2)))
      (case aS => exact (aK gL))
      (case aL => have := Gj.out; have hlx_ := (show (l0.take (dK : Int).toNat).length = dK.toNat from (by rw [List.length_take]; have h_ : (dK : Int) ≤ (l0.length : Int) := oT; omega)); omega)
      intro EN w40 ho hb hg hat
      rw [← Gu.out] at ho
      replace xE := am (Kd.r9 (ok := (fun _ => True)) UI hg hat)
      replace HB := am hb
      have yC := am ho
      clear eA
      clear ho hb hg hat
      refine hK.out _ _ trivial (fun hHeld => ?_)
      clear hK K
      refine nM ?_
      exact uN LS (hCont (KH, EN, Q8) _ ⟨(rR yC.1), (by refine rR ?_; exact Kd.bG xE.1 (fun _ hk => hk.2)), gL⟩)
    ·skip
     refine lT 9 39 NI ?_
     intro Q8 Zb Jd hb
     have xE := am (Kd.eF Jd (aK gL))
     replace HB := bS gL hb
     clear hb Jd
     refine hK.out _ _ trivial (fun hHeld => ?_)
     clear hK K
     refine nM ?_
     refine oN 0 (some 33) fun K hK => ?_
     refine lT 9 33 Ak ?_
     intro KH mo YH hb
     have eA := am (Kd.eF (Kd.jQ YH (Kd.R_lt UI)) (aK gL))
     replace xE := am (Kd.gZ UI (Kd.eO YH) hb)
     replace HB := bS gL hb
     clear hb YH
     refine hK.out _ _ trivial (fun hHeld => ?_)
     clear hK K
     refine nM ?_
     refine oN 4 (some 37) fun K hK => ?_
     refine Kd.iF Kd.string (w0 := w) w.heap.size (by rfl) (.tmp 33) (.tmp 36) 27 9 (.string ⟨#[]⟩) 16 rfl Tryz.underlying27 jP rfl (by decide) (by omega) KH KI (l0.take (dK : Int).toNat) _ _ _ (fun k_ => some k_ ≠ (Q8 : Value).ownBlock) (fun _ => False) rfl rfl ?aO ?aR (fun _ _ h => h) (fun _ h => h.elim) ?aF ?aB ?aS ?aL ?_
     (case aR => (have e_ : (l0.take (dK : Int).toNat).length = dK.toNat := (by rw [List.length_take]; have h_ : (dK : Int) ≤ (l0.length : Int) := oT; omega); have q_ := Kd.aM Ad.1 HB.1; rw [e_] at q_; exact q_))
     (case aB => exact gL)
     (case aF => exact (fun k_ hk => Kd.fresh' (Kd.R_lt UI) k_ hk))
     (case aO => exact (by refine rR ?_; exact Kd.bG eA.1 (fun _ hk => hk.2)))
     (case aS => exact (aK gL))
     (case aL => have := Gj.out; have hlx_ := (show (l0.take (dK : Int).toNat).length = dK.toNat from (by rw [List.length_take]; have h_ : (dK : Int) ≤ (l0.length : Int) := oT; omega)); omega)
     intro EN w40 ho hb hg hat
     rw [← Gu.out] at ho
     replace xE := am (Kd.r9 (ok := (fun _ => True)) UI hg hat)
     replace HB := am hb
     have yC := am ho
     clear eA
     clear ho hb hg hat
     refine hK.out _ _ trivial (fun hHeld => ?_)
     clear hK K
     refine nM ?_
     exact uN LS (hCont (KH, EN, Q8) _ ⟨(rR yC.1), (by refine rR ?_; exact Kd.bG xE.1 (fun _ hk => hk.2)), gL⟩)
   rintro ⟨KH, EN, Q8⟩ mr ⟨h0_, h1_, h2_⟩
   have yC : aD (Kd.R Kd.string 9 mr w.heap.size (fun k_ => some k_ ≠ (Q8 : Value).ownBlock) EN Fa) := ⟨h0_⟩
   have xE : aD (Kd.R Kd.string 9 mr w.heap.size (fun k_ => some k_ ≠ (EN : Value).ownBlock) Q8 QD) := ⟨h1_⟩
   replace HB : aD (Below w.heap.size w mr) := ⟨h2_⟩
   clear h0_ h1_ h2_
   have hHeld := trivial
   obtain ⟨Zp, gu, ip⟩ := Kd.cB xE.1
   (first | subst ip | (obtain ⟨f4_, f5_⟩ := sj ip; subst f4_; subst f5_))
   refine uN (a' := ?_) ?_ ?_
   rotate_left
   ·simp only [D7, Act.put, List.setIfInBounds_toArray, List.set_cons_zero, List.set_cons_succ]
    rfl
   refine oN 7 (some 40) fun K hK => ?_
   refine Kd.iF Kd.string (w0 := w) w.heap.size (by rfl) (.tmp 37) (.tmp 39) 27 9 (.string ⟨#[]⟩) 16 rfl Tryz.underlying27 jP rfl (by decide) (by omega) EN Fa QD _ _ _ (fun k_ => some k_ ≠ (.slice Zp QD.length gu : Value).ownBlock) (fun _ => False) rfl rfl ?aO ?aR (fun _ _ h => h) (fun _ h => h.elim) ?aF ?aB ?aS ?aL ?_
   (case aR => repeat (first | exact (Kd.bI xE.1).2.2 | (with_reducible refine Kd.l7 ?_ _) | (with_reducible refine Kd.l8 ?_ _) | (with_reducible refine Kd.mK ?_)))
   (case aB => exact gL)
   (case aF => exact (fun k_ hk => Kd.fresh' (Kd.R_lt UI) k_ hk))
   (case aO => exact (rR yC.1))
   (case aS => exact (aK gL))
   (case aL => have := ao.out; omega)
   intro v131 w42 ho hb hg hat
   rw [← V8.out] at ho
   replace xE := am (Kd.r9 (ok := (fun _ => True)) (by refine rR ?_; exact Kd.bG xE.1 (fun _ hk => ⟨trivial, hk⟩)) hg hat)
   replace HB := am hb
   have V5 := am ho
   clear yC
   clear ho hb hg hat
   refine hK.out _ _ trivial (fun hHeld => ?_)
   clear hK K
   refine nM ?_
   refine oN 11 (some 44) fun K hK => ?_
   refine Kd.iF Kd.string (w0 := w) w.heap.size (by rfl) (.tmp 40) (.tmp 43) 27 9 (.string ⟨#[]⟩) 16 rfl Tryz.underlying27 jP rfl (by decide) (by omega) v131 PK (l0.drop (dK : Int).toNat) _ _ _ (fun k_ => some k_ ≠ (.slice Zp QD.length gu : Value).ownBlock) (fun _ => False) rfl rfl ?aO ?aR (fun _ _ h => h) (fun _ h => h.elim) ?aF ?aB ?aS ?aL ?_
   (case aR => first | (rw [← show (l0.drop (dK : Int).toNat).length = (l0.length - dK.toNat) from List.length_drop]; repeat (first | exact (Kd.aM Gf.1 HB.1) | (with_reducible refine Kd.l7 ?_ _) | (with_reducible refine Kd.l8 ?_ _) | (with_reducible refine Kd.mK ?_))) | (repeat (first | exact (Kd.aM Gf.1 HB.1) | (with_reducible refine Kd.l7 ?_ _) | (with_reducible refine Kd.l8 ?_ _) | (with_reducible refine Kd.mK ?_))))
   (case aB => exact gL)
   (case aF => exact (fun k_ hk => Kd.fresh' (Kd.R_lt UI) k_ hk))
   (case aO => exact (rR V5.1))
   (case aS => exact (aK gL))
   (case aL => have := ap.out; have hlx_ := (show (l0.drop (dK : Int).toNat).length = (l0.length - dK.toNat) from List.length_drop); omega)
   intro sr mu ho hb hg hat
   rw [← Gw.out] at ho
   replace xE := am (Kd.r9 (ok := (fun _ => True)) UI hg hat)
   replace HB := am hb
   have tP := am ho
   clear V5
   clear ho hb hg hat
   refine hK.out _ _ trivial (fun hHeld => ?_)
   clear hK K
   refine nM ?_
   refine pU1 12 ?_
   refine dN ?_
   try go_wp2
   go_ret
   exact ⟨_, eR, by refine rR ?_; exact Kd.bG tP.1 (fun _ hk => trivial), gL⟩
def insF (a : ByteArray) : List ByteArray → Bool
 | [] => false
 | x :: t => if Op.bytesLess x.toList a.toList = true then insF a t else x.toList == a.toList
def cK.q0 : Nat → List ByteArray → ByteArray → Int → Option Bool
 | 0, _, _, _ => none
 | k + 1, b, c, a => if a < (b.length : Int) then (if 0 ≤ a then (if (Op.bytesLess ((rdOf ByteArray.empty b a).toList) c.toList) = true then (cK.q0 k b c (wrap64 (a + 1))) else (if (rdOf ByteArray.empty b a).toList = c.toList then some true else none)) else none) else none
theorem cK.Sm (l : List ByteArray) (a : ByteArray) (hl : l.length ≤ 9223372036854775807) : ∀ (n i : Nat), i + n = l.length → insF a (l.drop i) = true → cK.q0 (n + 1) l a i = some true
 | 0, i, hi, h => by rw [List.drop_eq_nil_of_le (by omega)] at h; cases h
 | n + 1, i, hi, h => by
  have hlt : i < l.length := by omega
  rw [List.drop_eq_getElem_cons hlt] at h
  have e1 : rdOf ByteArray.empty l (i : Int) = l[i] := by unfold rdOf; rw [Int.toNat_natCast]; simp [List.getD_eq_getElem?_getD, hlt]
  unfold cK.q0
  rw [if_pos (by omega), if_pos (by omega), e1]
  unfold insF at h
  by_cases hc : Op.bytesLess l[i].toList a.toList = true
  ·rw [if_pos hc] at h ⊢
   rw [show wrap64 ((i : Int) + 1) = ((i + 1 : Nat) : Int) by unfold wrap64; omega]
   exact cK.Sm l a hl n (i + 1) (by omega) h
  ·rw [if_neg hc] at h ⊢
   rw [if_pos (by simpa using h)]
theorem cK.same (k : Nat) (A0 : Option Addr) (c0 : Nat) (l0 : List ByteArray) (a1 : ByteArray) (w : World) (mO : Kd.C Kd.string w A0 l0.length l0) (nE : l0.length ≤ c0) (h : cK.q0 k l0 a1 0 = some true) :
  Calls Tryz.prog 57 #[.slice A0 l0.length c0, .string a1] w fun e w' => e = .returned (.slice A0 l0.length c0) ∧ Below w.heap.size w w' := by
 obtain ⟨lH, uR⟩ := mZ2 mO nE
 clear mO nE
 have HB := am (Below.refl w.heap.size w)
 have H := h
 clear h
 have H' := am H
 repeat clear H
 go_enter Tryz.func57, Tryz.ntmps57
 go_wp2
 go_loopg [5] k (fun kq v5 w' => ∃ (dK : Int), v5 = .int .i64 dK ∧ aD (cK.q0 kq l0 a1 dK = some true) ∧ aD (kq ≤ k) ∧ aD (Below w.heap.size w w'))
 case atStart => exact ⟨(0), eS, H', ⟨Nat.le_refl _⟩, ⟨gL⟩⟩
 clear H'
 obtain ⟨dK, rfl, HA, HK1, HB⟩ := hrel
 cases gk with
 | zero => exact absurd HA.out (by simp [cK.q0])
 | succ k1 =>
  have H := HA.out
  clear HA
  simp only [cK.q0] at H
  by_cases c3 : dK < (l0.length : Int)
  ·rw [if_pos c3] at H
   have FP : decide (dK < (l0.length : Int)) = true := decide_eq_true c3
   clear c3
   by_cases c4 : 0 ≤ dK
   ·rw [if_pos c4] at H
    have zQ : decide (0 ≤ dK) = true := decide_eq_true c4
    clear c4
    refine tC H ?_ ?_ <;> clear H <;> intro AZ H
    ·have H' := am H
     repeat clear H
     obtain ⟨jK, nD, kW, xZ, y6⟩ := aS lH HB dK
     cases nD
     go_wp2
     go_roundg k1
     case measure => have := HK1.out; omega
     case rel => exact ⟨(wrap64 (dK + 1)), eS, H', ⟨by have := HK1.out; omega⟩, ⟨gL⟩⟩
    ·by_cases c6 : (rdOf ByteArray.empty l0 dK).toList = a1.toList
     ·rw [if_pos c6] at H
      have CC : ((rdOf ByteArray.empty l0 dK).toList == a1.toList) = true := beq_iff_eq.mpr c6
      have VO : ((rdOf ByteArray.empty l0 dK).toList != a1.toList) = false := bne_eq_false_iff_eq.mpr c6
      clear c6 H
      obtain ⟨jK, nD, kW, xZ, y6⟩ := aS lH HB dK
      cases nD
      obtain ⟨n9, rT, o9, EJ, EL⟩ := aS lH HB dK
      obtain rfl : jK = n9 := (by injection rT)
      go_wp2
      go_ret
      exact ⟨rfl, gL⟩
     ·rw [if_neg c6] at H; cases H
   ·rw [if_neg c4] at H; cases H
  ·rw [if_neg c3] at H; cases H
def insL (a : ByteArray) : List ByteArray → List ByteArray
  | [] => [a]
  | x :: t => if Op.bytesLess x.toList a.toList = true then x :: insL a t else if x.toList == a.toList then x :: t else a :: x :: t
def AscS (l : List ByteArray) : Prop := l.Pairwise fun a b => Op.bytesLess a.toList b.toList = true
def lZ (has things : List ByteArray) : List ByteArray := things.foldl (fun h a => insL a h) has
theorem R6 (a : ByteArray) : ∀ l : List ByteArray, insF a l = true → insL a l = l
  | [], h => by cases h
  | x :: t, h => by
    unfold insF at h
    unfold insL
    by_cases hc : Op.bytesLess x.toList a.toList = true
    · rw [if_pos hc] at h ⊢
      rw [R6 a t h]
    · rw [if_neg hc] at h ⊢
      rw [if_pos h]
theorem OB (a s : ByteArray) : ∀ l : List ByteArray, s ∈ insL a l ↔ s = a ∨ s ∈ l
  | [] => by simp [insL]
  | x :: t => by
    unfold insL
    by_cases hc : Op.bytesLess x.toList a.toList = true
    · rw [if_pos hc, List.mem_cons, OB a s t, List.mem_cons]
      constructor
      · rintro (h | h | h) <;> simp [h]
      · rintro (h | h | h) <;> simp [h]
    · rw [if_neg hc]
      by_cases he : (x.toList == a.toList) = true
      · rw [if_pos he]
        have e : x = a := toList_inj.1 (by simpa using he)
        subst e
        simp
      · rw [if_neg he, List.mem_cons]
theorem WK (a : ByteArray) : ∀ l : List ByteArray, (insL a l).length ≤ l.length + 1
  | [] => by simp [insL]
  | x :: t => by
    unfold insL
    have := WK a t
    split
    · simp only [List.length_cons]; omega
    · split <;> simp only [List.length_cons] <;> omega
theorem WJ (a : ByteArray) : ∀ l : List ByteArray, AscS l → AscS (insL a l)
  | [], _ => List.pairwise_singleton _ _
  | x :: t, h => by
    obtain ⟨h1, h2⟩ := List.pairwise_cons.1 h
    unfold insL
    by_cases hc : Op.bytesLess x.toList a.toList = true
    · rw [if_pos hc]
      refine List.pairwise_cons.2 ⟨fun s hs => ?_, WJ a t h2⟩
      rcases (OB a s t).1 hs with rfl | hs
      · exact hc
      · exact h1 s hs
    · rw [if_neg hc]
      by_cases he : (x.toList == a.toList) = true
      · rw [if_pos he]; exact h
      · rw [if_neg he]
        have hxa : Op.bytesLess a.toList x.toList = true := Aw (by simpa using hc) (by simpa using he)
        refine List.pairwise_cons.2 ⟨fun s hs => ?_, h⟩
        rcases List.mem_cons.1 hs with rfl | hs
        · exact hxa
        · exact zO hxa (h1 s hs)
theorem BQ (s : ByteArray) : ∀ (things has : List ByteArray), s ∈ lZ has things ↔ s ∈ has ∨ s ∈ things
  | [], has => by simp [lZ]
  | a :: t, has => by
    show s ∈ lZ (insL a has) t ↔ _
    rw [BQ s t, OB, List.mem_cons]
    constructor
    · rintro ((h | h) | h) <;> simp [h]
    · rintro (h | h | h) <;> simp [h]
theorem G5 : ∀ (things has : List ByteArray), AscS has → AscS (lZ has things)
  | [], _, h => h
  | a :: t, has, h => G5 t (insL a has) (WJ a has h)
theorem G6 : ∀ (things has : List ByteArray), (lZ has things).length ≤ has.length + things.length
  | [], has => by simp [lZ]
  | a :: t, has => by
    have h1 := G6 t (insL a has)
    have h2 := WK a has
    show (lZ (insL a has) t).length ≤ _
    simp only [List.length_cons]; omega
theorem WG (has l : List ByteArray) (a : ByteArray) : lZ has (l ++ [a]) = insL a (lZ has l) := by
 unfold lZ; rw [List.foldl_append]; rfl
theorem VG : ∀ (a b : List ByteArray), AscS a → AscS b → (∀ s, s ∈ a ↔ s ∈ b) → a = b
 | [], [], _, _, _ => rfl
 | [], y :: b, _, _, h => absurd ((h y).2 (List.mem_cons_self ..)) (by simp)
 | x :: a, [], _, _, h => absurd ((h x).1 (List.mem_cons_self ..)) (by simp)
 | x :: a, y :: b, ha, hb, h => by
  obtain ⟨a1, a2⟩ := List.pairwise_cons.1 ha
  obtain ⟨b1, b2⟩ := List.pairwise_cons.1 hb
  have irr : ∀ z : ByteArray, ¬ Op.bytesLess z.toList z.toList = true := fun z hz => by
   rw [bytesLess_eq, decide_eq_true_eq] at hz; exact List.lt_irrefl _ hz
  have e : x = y := by
   rcases List.mem_cons.1 ((h x).1 (List.mem_cons_self ..)) with e | e
   ·exact e
   ·rcases List.mem_cons.1 ((h y).2 (List.mem_cons_self ..)) with e2 | e2
    ·exact e2.symm
    ·exact absurd (zO (a1 y e2) (b1 x e)) (irr x)
  subst e
  rw [VG a b a2 b2 fun s => ?_]
  constructor
  ·intro hs
   rcases List.mem_cons.1 ((h s).1 (List.mem_cons_of_mem _ hs)) with e | e
   ·subst e; exact absurd (a1 s hs) (irr s)
   ·exact e
  ·intro hs
   rcases List.mem_cons.1 ((h s).2 (List.mem_cons_of_mem _ hs)) with e | e
   ·subst e; exact absurd (b1 s hs) (irr s)
   ·exact e
theorem wZ (s : ByteArray) : bl s = s.toList := (ByteArray.toList_eq s).symm
theorem Cc {s : ByteArray} {l : List (List UInt8)} : s ∈ l.map mkB ↔ bl s ∈ l := by
 rw [List.mem_map]
 constructor
 ·rintro ⟨x, hx, rfl⟩; rw [zN]; exact hx
 intro h; exact ⟨bl s, h, uE s⟩
theorem Xt {x : List UInt8} {l : List ByteArray} : x ∈ l.map bl ↔ mkB x ∈ l := by
 rw [List.mem_map]
 constructor
 ·rintro ⟨s, hs, rfl⟩; rw [uE]; exact hs
 intro h; exact ⟨mkB x, h, zN x⟩
theorem Et (s : ByteArray) (xs : List ByteArray) : s ∈ wN xs ↔ s ∈ xs := by
 unfold wN
 rw [Cc, List.mem_mergeSort, Xt, uE]
theorem Es (xs : List ByteArray) : (wN xs).Pairwise fun a b => ¬ bl b < bl a := by
 unfold wN
 rw [List.pairwise_map]
 refine (List.pairwise_mergeSort (le := fun x y : List UInt8 => decide (x ≤ y)) ?_ ?_ (xs.map bl)).imp fun {a b} h => ?_
 ·intro a b c h1 h2
  rw [decide_eq_true_eq] at *
  exact List.le_trans h1 h2
 ·intro a b
  rw [Bool.or_eq_true, decide_eq_true_eq, decide_eq_true_eq]
  exact List.le_total a b
 rw [zN, zN]
 exact List.not_lt.2 (by simpa using h)
theorem Dk (s : ByteArray) (xs : List ByteArray) : s ∈ oU xs ↔ s ∈ xs := by
 unfold oU
 rw [Cc]
 unfold Lib.compact Lib.compactUpTo
 simp only [List.mem_map, List.mem_filter, List.mem_range, List.length_map]
 constructor
 ·rintro ⟨j, ⟨hj, _⟩, e⟩
  rw [getElem!_pos _ j (by simpa using hj)] at e
  simp only [List.getElem_toArray, List.getElem_map] at e
  have : xs[j] = s := by rw [← uE s, ← e, uE]
  rw [← this]; exact List.getElem_mem hj
 intro hs
 obtain ⟨j, hj, rfl⟩ := List.getElem_of_mem hs
 have go : ∀ (n i : Nat), i ≤ n → (hi : i < xs.length) → xs[i] = xs[j] → ∃ a, (a < xs.length ∧ Lib.keeps (xs.map bl).toArray a = true) ∧ (xs.map bl).toArray[a]! = bl xs[j] := by
  intro n
  induction n with
  | zero =>
   intro i hn hi e
   have : i = 0 := by omega
   subst this
   exact ⟨0, ⟨hi, Lib.keeps_lt_one _ 0 (by omega)⟩, by rw [getElem!_pos _ 0 (by simpa using hi)]; simp [e]⟩
  | succ n ih =>
   intro i hn hi e
   by_cases hk : Lib.keeps (xs.map bl).toArray i = true
   ·exact ⟨i, ⟨hi, hk⟩, by rw [getElem!_pos _ i (by simpa using hi)]; simp [e]⟩
   ·unfold Lib.keeps at hk
    simp only [decide_eq_true_eq, not_or, Classical.not_not, ne_eq] at hk
    obtain ⟨h0, h1⟩ := hk
    rw [getElem!_pos _ i (by simpa using hi), getElem!_pos _ (i - 1) (by simp; omega)] at h1
    simp only [List.getElem_toArray, List.getElem_map] at h1
    have h2 : xs[i - 1]'(by omega) = xs[j] := by
     rw [← e, ← uE (xs[i - 1]'(by omega)), ← h1, uE]
    exact ih (i - 1) (by omega) (by omega) h2
 exact go j j (Nat.le_refl _) hj rfl
theorem Dj {xs : List ByteArray} (h : xs.Pairwise fun a b => ¬ bl b < bl a) : AscS (oU xs) := by
 have hpw := List.pairwise_iff_getElem.1 h
 unfold oU AscS Lib.compact Lib.compactUpTo
 rw [List.pairwise_map, List.pairwise_map, List.pairwise_filter]
 simp only [List.length_map]
 refine List.Pairwise.imp_of_mem (R := fun a b => a < b) (fun {a b} ha hb hab _ hkb => ?_) List.pairwise_lt_range
 have ha := List.mem_range.1 ha
 have hb := List.mem_range.1 hb
 rw [← wZ, ← wZ, zN, zN, bytesLess_eq, decide_eq_true_eq]
 unfold Lib.keeps at hkb
 simp only [decide_eq_true_eq] at hkb
 rcases hkb with hkb | hkb
 ·omega
 rw [getElem!_pos _ a (by simpa using ha), getElem!_pos _ b (by simpa using hb)]
 rw [getElem!_pos _ b (by simpa using hb), getElem!_pos _ (b - 1) (by simp; omega)] at hkb
 simp only [List.getElem_toArray, List.getElem_map] at hkb ⊢
 have h1 : ¬ bl (xs[b - 1]'(by omega)) < bl (xs[a]'ha) := by
  by_cases e : a = b - 1
  ·subst e; exact List.lt_irrefl _
  ·exact hpw a (b - 1) ha (by omega) (by omega)
 have h2 : ¬ bl (xs[b]'hb) < bl (xs[b - 1]'(by omega)) := hpw (b - 1) b (by omega) hb (by omega)
 have h3 : bl (xs[b - 1]'(by omega)) < bl (xs[b]'hb) := by
  by_cases h4 : bl (xs[b - 1]'(by omega)) < bl (xs[b]'hb)
  ·exact h4
  ·exact absurd (List.le_antisymm (List.not_lt.1 h4) (List.not_lt.1 h2)) hkb
 exact List.lt_of_le_of_lt (List.not_lt.1 h1) h3
theorem WH {has : List ByteArray} (h : AscS has) (things : List ByteArray) : oU (wN (has ++ things)) = lZ has things :=
  VG _ _ (Dj (Es _)) (G5 things has h) fun s => by rw [Dk, Et, BQ, List.mem_append]
theorem RA {l all : List ByteArray} (h : kG l all = true) : AscS l := by
 unfold kG at h
 have hall := (pO _ _ _).1 h
 have hstep : ∀ i (hi : i + 1 < l.length), Op.bytesLess (l[i]'(by omega)).toList l[i + 1].toList = true := by
  intro i hi
  have q := hall (i + 1) (by omega) hi
  unfold wB at q
  simp only [Bool.and_eq_true, Bool.or_eq_true, decide_eq_true_eq] at q
  rcases q.2 with q3 | q3
  ·omega
  ·unfold ltB gS at q3
   rw [getD_lt l _ (show i + 1 - 1 < l.length by omega), getD_lt l _ hi] at q3
   exact q3
 unfold AscS
 rw [List.pairwise_iff_getElem]
 have go : ∀ (d i : Nat) (hd : i + d + 1 < l.length), Op.bytesLess (l[i]'(by omega)).toList (l[i + d + 1]'hd).toList = true := by
  intro d
  induction d with
  | zero => intro i hd; exact hstep i hd
  | succ d ih => intro i hd; exact zO (ih i (by omega)) (hstep (i + d + 1) (by omega))
 intro i j hi hj hij
 have := go (j - i - 1) i (by omega)
 simpa only [show i + (j - i - 1) + 1 = j by omega] using this
theorem Hy {ts : List ByteArray} {bs : List IB} (h : iY ts bs = true) {i : Nat} (hi : i < bs.length) : AscS (gB bs i).f1 := by
 unfold iY at h
 simp only [Bool.and_eq_true, decide_eq_true_eq] at h
 have q := (pO _ _ _).1 h.2.2 i (by omega) hi
 unfold q8 at q
 simp only [Bool.and_eq_true] at q
 exact RA q.1.2.2.2
def iA.f (k : Nat) (aQ : List ByteArray) (aE : List (S66)) (a1 : ByteArray) : Option (List ByteArray × (List (S66)) × Int) := (aG.f k aQ aE).bind fun h => (if h = true then ((dA.f k aQ aE).bind fun a => ((gG.f k aQ aE a1).bind fun b => (if b < 0 then (some (a.1, a.2, 3)) else ((some (([] : List (S66)) : List (S66))).bind fun c => (if 0 ≤ b then (if b ≤ (a.2.length : Int) then ((some (a.2.take (b : Int).toNat : List (S66))).bind fun d => (if c.length + d.length < 2199023255552 then ((some (c ++ d : List (S66))).bind fun e => (if 0 ≤ (wrap64 (b + 1)) then (if (wrap64 (b + 1)) ≤ (a.2.length : Int) then ((some (a.2.drop ((wrap64 (b + 1)) : Int).toNat : List (S66))).bind fun g => (if e.length + g.length < 2199023255552 then (some (a.1, (e ++ g), 0)) else (none))) else (none)) else (none))) else (none))) else (none)) else (none)))))) else (some (([] : List ByteArray), ([] : List (S66)), 1)))
def iA.T7 : Bool × List (List Nat × List Nat) := (true, [([], []), ([], []), ([1], [1]), ([], []), ([2, 3], [2, 3]), ([0, 4], [0, 4]), ([], []), ([6], [6]), ([], []), ([8], [8]), ([7, 9], [7, 9]), ([5, 10, 5], [5, 10]), ([0, 1, 2, 3, 4, 5, 6, 7, 8, 9, 10, 11], []), ([12, 11, 11, 0, 1, 2, 3, 4, 5, 6, 7, 8, 9, 10, 11], [11, 12])])
def iA.B7 : List Nat := [0, 0, 2, 0, 14, 31, 0, 64, 0, 256, 960, 2047, 4095, 8191]
theorem iA.tab7 : rtab .any (opsOf Tryz.f27 7) = iA.T7 := by kernel_rfl
theorem iA.KV : nV iA.T7.2 iA.B7 = true := by kernel_rfl
theorem iA.calls (k : Nat) (dD : Option Addr) (dE : Nat) (aQ : List ByteArray) (dS : Option Addr) (dB : Nat) (aE : List (S66)) (a1 : ByteArray) (r1 : List ByteArray) (r2 : List (S66)) (r3 : Int) (w : World) (fL : Kd.C Kd.string w dD aQ.length aQ) (fJ : aQ.length ≤ dE) (fH : Kd.C k66 w dS aE.length aE) (fK : aE.length ≤ dB) (h : iA.f k aQ aE a1 = some (r1, r2, r3)) :
  Calls Tryz.prog 27 #[.agg #[.slice dD aQ.length dE, .slice dS aE.length dB], .string a1] w fun e w' => ∃ v0_ v1_ : Value, e = .returned (.tuple #[.agg #[v0_, v1_], .int .i64 r3]) ∧ Kd.R Kd.string 9 w' w.heap.size (fun k_ => (w.heap.size ≤ k_)) v0_ r1 ∧ Kd.N k66 66 w' w.heap.size (F10 w v0_) v1_ r2 ∧ Below w.heap.size w w' := by
 have hu31 := Tryz.underlying31
 obtain ⟨cS, cO⟩ := mZ2 fL fJ
 obtain ⟨bE, dL⟩ := mZ2 fH fK
 clear fL fJ fH fK
 have HB := am (Below.refl w.heap.size w)
 unfold iA.f at h
 have H := h
 clear h
 obtain ⟨mQ, A3, H⟩ := bd H
 refine tC H ?_ ?_ <;> clear H <;> intro c4 H <;> subst c4
 obtain ⟨⟨bR, dI⟩, A5, H⟩ := bd H
 dsimp only at H
 obtain ⟨bO, A6, H⟩ := bd H
 refine ic H ?_ ?_ <;> clear H <;> intro NV H
 obtain ⟨rfl, rfl, rfl⟩ := sZ3 H
 repeat clear H
 have XP := trivial
 have ca := trivial
 rotate_left
 obtain ⟨C0, hy112⟩ : ∃ y_ : List (S66), y_ = (([] : List (S66))) := ⟨_, rfl⟩
 replace H : (if 0 ≤ bO then (if bO ≤ (dI.length : Int) then ((some (dI.take (bO : Int).toNat : List (S66))).bind fun GM => (if C0.length + GM.length < 2199023255552 then ((some (C0 ++ GM : List (S66))).bind fun KI => (if 0 ≤ (wrap64 (bO + 1)) then (if (wrap64 (bO + 1)) ≤ (dI.length : Int) then ((some (dI.drop ((wrap64 (bO + 1)) : Int).toNat : List (S66))).bind fun y7 => (if KI.length + y7.length < 2199023255552 then (some (bR, (KI ++ y7), 0)) else (none))) else (none)) else (none))) else (none))) else (none)) else (none)) = some (r1, r2, r3) := by first | (rw [hy112]; with_reducible exact H) | (have H2_ := (Option.bind_some _ _).symm.trans H; rw [hy112]; with_reducible exact H2_) | (have H2_ := (Option.bind_some _ _).symm.trans H; with_reducible exact H2_) | with_reducible exact H | (rw [hy112]; exact H) | exact H
 have V7 := am hy112
 clear hy112
 obtain ⟨QV, yi, H⟩ := cP H
 obtain ⟨NU, fu, H⟩ := cP H
 obtain ⟨GM, H5, H⟩ := bY H
 obtain ⟨al, H⟩ := cL H
 obtain ⟨KI, Ak, H⟩ := bY H
 obtain ⟨ji28, hji28⟩ : ∃ j_ : Int, (wrap64 (bO + 1)) = j_ := ⟨_, rfl⟩
 replace H : (if 0 ≤ (ji28) then (if (ji28) ≤ (dI.length : Int) then ((some (dI.drop ((ji28) : Int).toNat : List (S66))).bind fun y7 => (if KI.length + y7.length < 2199023255552 then (some (bR, (KI ++ y7), 0)) else (none))) else (none)) else (none)) = some (r1, r2, r3) := by first | (rw [hji28] at H; exact H) | (simp only [hji28] at H ⊢; exact H)
 (try rw [hji28] at A3)
 (try rw [hji28] at A5)
 (try rw [hji28] at A6)
 have hji28w : (IntKind.i64.wrap (bO + 1)) = ji28 := (rZ _).trans hji28
 obtain ⟨fw, yl, H⟩ := cP H
 obtain ⟨fx, ym, H⟩ := cP H
 obtain ⟨y7, KT, H⟩ := bY H
 obtain ⟨Gk, H⟩ := cL H
 obtain ⟨DL, NJ⟩ := yv (KI ++ y7); first | replace H := bW NJ H | rw [← NJ.1] at H
 obtain ⟨rfl, rfl, rfl⟩ := sZ3 H
 repeat clear H
 have XP := trivial
 have cb := trivial
 rotate_left
 obtain ⟨rfl, rfl, rfl⟩ := sZ3 H
 repeat clear H
 have cd := trivial
 rotate_left
 all_goals
  go_enter Tryz.func27, Tryz.ntmps27
  try go_wp2_with (first | ((with_reducible refine gD 2 ?_); refine bX 2 #[.slice dD aQ.length dE, .slice dS aE.length dB] 31 ?_; intro aZ hg a0S hbox hb; have aC := am hbox; have gU := am (nS : w.heap.size ≤ aZ); have iL := gU; replace HB := bS gL hb; clear hb hbox hg) | ((with_reducible refine gD 4 ?_); refine bX 4 #[.slice none 0 0, .slice none 0 0] 31 ?_; intro bF hg a0T hbox hb; have aT := am hbox; have qC := am (vA : w.heap.size ≤ bF); have pM := qC; replace HB := bS dQ hb; have dY := nL bJ hg; have eI := nG bJ hg; replace aC := bB bJ hb; clear hb hbox hg; have vt := nZ1 dY eI; have vu := cz2 aC) | ((with_reducible refine gC 21 ?_); revert XP; intro XP; refine cQ (some 9) Tryz.func21 (aG.calls k _ _ aQ _ _ aE true _ (pB cS) cO.1 (pB bE) dL.1 A3.out) ?_; rintro a0U hb; replace aC := bB bJ hb; replace aT := bB fF hb; replace HB := bS jY hb; clear hb; have vv := cz2 aC) | ((with_reducible refine gC 22 ?_); revert XP; intro XP; refine cE (some 13) Tryz.func22 (dA.calls k _ _ aQ _ _ aE bR dI _ (pB cS) cO.1 (pB bE) dL.1 A5.out) ?_; rintro e a0V ⟨v105, CG, rfl, hD, pP, hb⟩; refine ⟨_, rfl, ?_⟩; have fQ := am (Kd.eF (Kd.qN (M := fun k_ => (w.heap.size ≤ k_)) hD (aK jY) (fun k_ h_ => h_)) (aK jY)); have eU := am (Kd.pE (Kd.bQ (ok' := F12 w v105 aZ bF) (Kd.S_N (Kd.lC pP)) (fun k_ hk_ => ⟨(Nat.le_trans (aK jY) hk_.2.1), hk_.1, (fB bJ k_ hk_.2.1), (fB fF k_ hk_.2.1)⟩)) (aK jY)); replace aC := bB bJ hb; replace aT := bB fF hb; replace HB := bS jY hb; clear hb hD pP) | ((with_reducible refine gD 6 ?_); revert XP; intro XP; refine bX 6 #[.slice none 0 0, .slice none 0 0] 31 ?_; intro bM hg a0W hbox hb; replace fQ := RB wC hb; replace eU := am (Kd.l9 (Kd.vN CD bM (Nat.le_of_eq hg.symm)) hb); have aY := am hbox; have zG := am (UC : w.heap.size ≤ bM); have wH := zG; replace HB := bS jY hb; have eZ := nL bJ hg; have fP := nG bJ hg; replace aC := bB bJ hb; have fI := nL fF hg; have gW := nG fF hg; replace aT := bB fF hb; clear hb hbox hg; obtain ⟨oE, oJ, Wb⟩ := Kd.cB fQ.1; subst Wb; have vw := nZ2 fP eZ gW fI; have vx := cz2 aY; obtain ⟨tL, rQ, Wc⟩ := Kd.kN eU.1; subst Wc; have vy := cz2 aC) | ((with_reducible refine gC 48 ?_); revert ca; intro ca; refine cQ (some 16) Tryz.func48 (gG.calls k _ _ aQ _ _ aE a1 bO _ (Kd.aM cS.1 fE) cO.1 (Kd.aM bE.1 fE) dL.1 A6.out) ?_; rintro a0X hb; replace fQ := am (Kd.iI (by refine rR ?_; exact (Kd.bG (fR (fR (tR fQ aY))) (fun _ h_ => h_.1))) hb); replace eU := am (Kd.l9 (by refine rN ?_; exact (Kd.bQ (fN (fN (Kd.bQ eU.1 (fun k_ hk => (⟨hk, hk.2⟩ : _ ∧ k_ ≠ bM))))) (fun _ h_ => h_.1))) hb); replace aC := am (aV (g := aZ) (o := .cells #[.slice dD aQ.length dE, .slice dS aE.length dB] 31 (0, 0)) Pk hb); replace aT := am (aV (g := bF) (o := .cells #[.slice none 0 0, .slice none 0 0] 31 (0, 0)) UA hb); replace aY := am (aV (g := bM) (o := .cells #[.slice oE bR.length oJ, .slice tL dI.length rQ] 31 (0, 0)) (qP aY) hb); replace HB := bS fE hb; clear hb; have vz := cz2 aY; have wa := cz2 aT) | ((with_reducible refine gC 48 ?_); revert cb; intro cb; refine cQ (some 16) Tryz.func48 (gG.calls k _ _ aQ _ _ aE a1 bO _ (Kd.aM cS.1 fE) cO.1 (Kd.aM bE.1 fE) dL.1 A6.out) ?_; rintro ke hb; replace fQ := am (Kd.iI (by refine rR ?_; exact (Kd.bG (fR (fR (tR fQ aY))) (fun _ h_ => h_.1))) hb); replace eU := am (Kd.l9 (by refine rN ?_; exact (Kd.bQ (fN (fN (Kd.bQ eU.1 (fun k_ hk => (⟨hk, hk.2⟩ : _ ∧ k_ ≠ bM))))) (fun _ h_ => h_.1))) hb); replace aC := am (aV (g := aZ) (o := .cells #[.slice dD aQ.length dE, .slice dS aE.length dB] 31 (0, 0)) Pk hb); replace aT := am (aV (g := bF) (o := .cells #[.slice none 0 0, .slice none 0 0] 31 (0, 0)) UA hb); replace aY := am (aV (g := bM) (o := .cells #[.slice oE bR.length oJ, .slice tL dI.length rQ] 31 (0, 0)) (qP aY) hb); replace HB := bS fE hb; clear hb) | ((with_reducible refine gC 21 ?_); revert cd; intro cd; refine cQ (some 9) Tryz.func21 (aG.calls k _ _ aQ _ _ aE false _ (pB cS) cO.1 (pB bE) dL.1 A3.out) ?_; rintro a0Y hb; replace aC := bB bJ hb; replace aT := bB fF hb; replace HB := bS jY hb; clear hb; have wd := cz2 aT))
 ·refine cT bF 31 #[.slice oE bR.length oJ, .slice tL dI.length rQ] (qP aT) Tryz.underlying31 ?_
  exact ⟨_, _, eR, mR fQ aT, by refine rN ?_; exact Kd.bQ (fN (fN (Kd.bQ eU.1 (fun k_ hk => (⟨hk, hk.1.2.2.2⟩ : _ ∧ k_ ≠ bF))))) (fun _ hk => ⟨hk.1.1.1, hk.1.1.2.1⟩), fE⟩
 ·replace fQ := RD fQ
  replace eU := ND eU
  replace aC := BD aC
  replace aT := BD aT
  replace aY := BD aY
  replace HB := am (aU HB.1)
  have rx : (bO : Int) ≤ ((dI.length : Int) : Int) := oT
  obtain ⟨i048, Sc, _, hsz48, _⟩ := info_parts pJ
  have hroom48 : dI.length ≤ rQ := (Kd.gT eU.1).2.1
  have hC48 : Kd.F k66 _ _ tL dI.length dI := (Kd.V_at (base := w.heap.size) (Kd.N_V eU.1)).2.2
  have hcut48 := CQ (P := Tryz.prog) 29 66 .i64 Tryz.underlying29 Sc tL dI.length rQ bO (oT) rx hroom48
  have Xi := Kd.XN (m := (bO : Int).toNat) hC48 (by omega)
  have hy48 : GM.length = (bO : Int).toNat := (by rw [H5.out, List.length_take]; omega)
  rw [← H5.out] at Xi
  rw [← hy48] at hcut48
  have iN := am (show Kd.V k66 66 _ w.heap.size _ (.slice tL GM.length rQ) GM from Kd.V_mk (by omega) Xi)
  have ua := am (show GM.length ≤ rQ from by omega)
  clear Xi hC48 hroom48 Sc hsz48
  have KY48 := am hy48
  clear hy48
  replace rx := eq_true rx
  have ry : ((ji28) : Int) ≤ ((dI.length : Int) : Int) := oT
  obtain ⟨i049, Sd, _, hsz49, _⟩ := info_parts pJ
  have hroom49 : dI.length ≤ rQ := (Kd.gT eU.1).2.1
  have hC49 : Kd.F k66 _ _ tL dI.length dI := (Kd.V_at (base := w.heap.size) (Kd.N_V eU.1)).2.2
  have rp : (0 : Int) ≤ ((ji28) : Int) := oT
  have hcut49 := I7 (P := Tryz.prog) 29 66 .i64 Tryz.underlying29 Sd 3 hsz49 tL dI.length rQ (ji28) rp ry
  have Jf := Kd.Fs (m := ((ji28) : Int).toNat) (c := rQ) hC49 (by omega) hroom49
  obtain ⟨tp, hA49⟩ : ∃ A1, A1 = (if rQ = ((ji28) : Int).toNat then tL else (tL : Option Addr).map (·.add (((ji28) : Int).toNat * 3))) := ⟨_, rfl⟩
  obtain ⟨Y3, Oe⟩ : ∃ c1, c1 = rQ - ((ji28) : Int).toNat := ⟨_, rfl⟩
  have hy49 : y7.length = dI.length - ((ji28) : Int).toNat := (by rw [KT.out, List.length_drop] <;> omega)
  rw [show (dI).drop ((ji28) : Int).toNat = y7 from KT.out.symm] at Jf
  replace Jf : Kd.F k66 _ _ tp y7.length y7 := (by rw [hA49]; exact Jf)
  rw [← hy49, ← hA49, ← Oe] at hcut49
  have xD := am (show Kd.V k66 66 _ w.heap.size _ (.slice tp y7.length Y3) y7 from Kd.V_mk (by rw [hy49, Oe]; exact Nat.sub_le_sub_right hroom49 _) Jf)
  have ud := am (show y7.length ≤ Y3 from by rw [hy49, Oe]; exact Nat.sub_le_sub_right hroom49 _)
  clear Jf hC49 hroom49 Sd hsz49 Oe
  have KY49 := am hy49
  have KA49 := am hA49
  clear hy49 hA49
  replace ry := eq_true ry
  refine sT [13] 14 (uA2 aY) (fun hHeld => ?_)
  refine gH iA.tab7 iA.KV (fun HT_ HW_ => ?_)
  generalize ke.drew = th at fQ eU aC aT aY HB iN xD hHeld ⊢
  refine pU5 1 3 6 8 9 ?_
  refine tK2 2 (some 22) ?_
  refine pU1 4 ?_
  refine tK2 7 (some 27) ?_
  refine pU1 10 ?_
  refine oN 0 (some 20) fun K hK => ?_
  refine Kd.FJ k66 _ 66 ?hg (N' := 20) ?hd (xs := ([] : List (S66))) (inner := []) (ok := (F23 w (.slice oE bR.length oJ) (.slice tL dI.length rQ) aZ bF bM)) (okp := (F23 w (.slice oE bR.length oJ) (.slice tL dI.length rQ) aZ bF bM)) ?hr ?hp (fun _ hk => hk) ((show ∀ k_, th.heap.size ≤ k_ → (F23 w (.slice oE bR.length oJ) (.slice tL dI.length rQ) aZ bF bM) k_ from fun k_ hk => ⟨(Nat.le_trans (aK fE) hk), Kd.fresh' (Kd.R_lt wC) k_ hk, Kd.fresh' (Kd.N_lt CD) k_ hk, fB bJ k_ hk, fB fF k_ hk, fB jO k_ hk⟩) _ (Nat.le_refl _)) (Below.refl _ _) (Nat.le_refl _) (by simp) ?_; (case hd => rfl); (case hg => rfl); (case hr => first | (go_simp; done) | (go_simp; rfl)); (case hp => exact (Reps.none _ _))
  intro Pw w50 WB hb hg_ hnew_
  clear hg_ hnew_
  (first | rw [← V7.out] at WB | (simp only [Int.reduceToNat] at WB; rw [← V7.out] at WB))
  replace fQ := RB wC hb
  replace eU := am (Kd.qL CD (Kd.vV WB) hb)
  replace iN := am (Kd.lY (rV iN.1) (Kd.vV WB) hb)
  replace xD := am (Kd.lY (rV xD.1) (Kd.vV WB) hb)
  have C2 := am (Kd.pE WB (aK fE))
  replace aC := bB bJ hb
  replace aT := bB fF hb
  replace aY := bB jO hb
  replace HB := bS fE hb
  clear hb WB
  refine nK hK (uA2 aY).1 fun hHeld => ?_
  clear hK K
  refine oN 5 (some 25) fun K hK => ?_
  refine Kd.l5 k66 (w0 := w) w.heap.size (by rfl) (.tmp 20) (.tmp 24) 29 66 Ag0 64 rfl Tryz.underlying29 pJ rfl (by decide) (by omega) Pw C0 GM _ _ _ (F13 w (.slice oE bR.length oJ) aZ bF bM) (FA (F13 w (.slice oE bR.length oJ) aZ bF bM) Pw) rfl rfl ?aO ?aR (fun _ hk => hk) ?aF ?aB ?aS ?aL ?_
  (case aR => exact (by skip; exact Kd.V_F (Kd.iC (ok' := (FA (F13 w (.slice oE bR.length oJ) aZ bF bM) Pw)) (iN.1) (fun k_ hk => ⟨⟨hk.1.1.1, ⟨hk.1.1.2.1, ⟨hk.1.1.2.2.1, ⟨hk.1.1.2.2.2, hk.1.2⟩⟩⟩⟩, hk.2⟩))))
  (case aB => exact fE)
  (case aF => exact (fun k_ hk => ⟨(Nat.le_trans (aK fE) hk), Kd.fresh' (Kd.R_lt wC) k_ hk, fB bJ k_ hk, fB fF k_ hk, fB jO k_ hk⟩))
  (case aO => exact (by refine rN ?_; exact Kd.bQ C2.1 (fun _ hk => ⟨hk.1, ⟨hk.2.1, ⟨hk.2.2.2.1, ⟨hk.2.2.2.2.1, hk.2.2.2.2.2⟩⟩⟩⟩)))
  (case aS => exact (aK fE))
  (case aL => have := al.out; omega)
  intro KH w52 ho hb hg hat
  rw [← Ak.out] at ho
  replace aC := gkN bJ hg C2 aC
  replace aT := gkN fF hg C2 aT
  replace fQ := am (Kd.tV wC (Kd.nQ (rN C2.1)) (by decide) hg)
  replace eU := am (Kd.tT (ok := (F13 w (.slice oE bR.length oJ) aZ bF bM)) (by refine rN ?_; exact Kd.bQ eU.1 (fun _ hk => ⟨⟨hk.1.1.1, ⟨hk.1.1.2.1, ⟨hk.1.1.2.2.1, ⟨hk.1.1.2.2.2, hk.1.2⟩⟩⟩⟩, hk.2⟩)) hg hat)
  replace aY := gkN jO hg C2 aY
  replace iN := am (Kd.jR (ok := (F13 w (.slice oE bR.length oJ) aZ bF bM)) (by refine rV ?_; exact Kd.iC iN.1 (fun _ hk => ⟨⟨hk.1.1.1, ⟨hk.1.1.2.1, ⟨hk.1.1.2.2.1, ⟨hk.1.1.2.2.2, hk.1.2⟩⟩⟩⟩, hk.2⟩)) hg hat)
  replace xD := am (Kd.jR (ok := (F13 w (.slice oE bR.length oJ) aZ bF bM)) (by refine rV ?_; exact Kd.iC xD.1 (fun _ hk => ⟨⟨hk.1.1.1, ⟨hk.1.1.2.1, ⟨hk.1.1.2.2.1, ⟨hk.1.1.2.2.2, hk.1.2⟩⟩⟩⟩, hk.2⟩)) hg hat)
  replace HB := am hb
  have eA := am ho
  clear C2
  clear ho hb hg hat
  refine nK hK (uA2 aY).1 fun hHeld => ?_
  clear hK K
  refine oN 11 (some 31) fun K hK => ?_
  refine Kd.l5 k66 (w0 := w) w.heap.size (by rfl) (.tmp 25) (.tmp 30) 29 66 Ag0 64 rfl Tryz.underlying29 pJ rfl (by decide) (by omega) KH KI y7 _ _ _ (F13 w (.slice oE bR.length oJ) aZ bF bM) (FA (F13 w (.slice oE bR.length oJ) aZ bF bM) KH) rfl rfl ?aO ?aR (fun _ hk => hk) ?aF ?aB ?aS ?aL ?_
  (case aR => exact (by skip; exact Kd.V_F (Kd.iC (ok' := (FA (F13 w (.slice oE bR.length oJ) aZ bF bM) KH)) (xD.1) (fun k_ hk => ⟨⟨hk.1.1, ⟨hk.1.2.1, ⟨hk.1.2.2.1, ⟨hk.1.2.2.2.1, hk.1.2.2.2.2⟩⟩⟩⟩, hk.2⟩))))
  (case aB => exact fE)
  (case aF => exact (fun k_ hk => ⟨(Nat.le_trans (aK fE) hk), Kd.fresh' (Kd.R_lt wC) k_ hk, fB bJ k_ hk, fB fF k_ hk, fB jO k_ hk⟩))
  (case aO => exact (rN eA.1))
  (case aS => exact (aK fE))
  (case aL => have := Gk.out; omega)
  intro sp w53 ho hb hg hat
  rw [← NJ.out] at ho
  replace aC := gkN bJ hg eA aC
  replace aT := gkN fF hg eA aT
  replace fQ := am (Kd.tV wC (Kd.nQ (rN eA.1)) (by decide) hg)
  replace eU := am (Kd.tT (ok := (F13 w (.slice oE bR.length oJ) aZ bF bM)) CD hg hat)
  replace aY := gkN jO hg eA aY
  replace iN := am (Kd.jR (ok := (F13 w (.slice oE bR.length oJ) aZ bF bM)) (rV iN.1) hg hat)
  replace xD := am (Kd.jR (ok := (F13 w (.slice oE bR.length oJ) aZ bF bM)) (rV xD.1) hg hat)
  replace HB := am hb
  have kT := am ho
  clear eA
  clear ho hb hg hat
  obtain ⟨Tm, Vv, ir⟩ := Kd.kN kT.1
  (first | subst ir | (obtain ⟨f4_, f5_⟩ := sj ir; subst f4_; subst f5_))
  refine nK hK (uA2 aY).1 fun hHeld => ?_
  clear hK K
  refine pU1 12 ?_
  refine lN 13 none fun K hK => ?_
  have a5U : w53.cell? ⟨bM, 1, none⟩ = some (.slice tL dI.length rQ) := (aH aY.1 1).trans rfl
  have zw := bL aY.1 1
  have mf := eZ.1
  have mg := fI.1
  have lq := fP.1
  have lr := gW.1
  refine qJ (w1 := ?_) (by rfl) rfl ?_ ?_
  rotate_left
  ·go_simp
   rfl
  refine hK.out _ _ ?_
  clear hK K
  refine dN ?_
  have Z56 := cz2 aY
  have Z57 := cz2 aT
  try go_wp2
  refine cT bF 31 #[.slice oE bR.length oJ, .slice Tm DL.length Vv] (by refine rB ?_; refine bD (cs := #[.slice oE bR.length oJ, .slice none 0 0]) ?_ 1 _ rfl; refine rB ?_; refine bD (cs := #[.slice none 0 0, .slice none 0 0]) ?_ 0 _ rfl; refine rB ?_; refine eX ?_ fI.1 _; refine rB ?_; exact aT.1) Tryz.underlying31 ?_
  exact ⟨_, _, by first | rfl | (simp [zU, zV] <;> rfl) | (simp only [← hji28]; first | rfl | (simp [zU, zV] <;> rfl)) | (simp [*, zU, zV] <;> rfl), by refine rR ?_; exact Kd.bG (fR (fR (Kd.uL (p := ⟨bM, 1, none⟩) (Kd.iX (tR fQ aY) aT.1 (by decide)) (fun _ hk => hk.1.2) (.slice Tm DL.length Vv)))) (fun _ hk => hk.1.1.1), by refine rN ?_; exact Kd.bQ (fN (fN (Kd.Gn (p := ⟨bM, 1, none⟩) (Kd.bQ (Kd.bQ kT.1 (fun k_ hk => (⟨hk, hk.2.2.2.2⟩ : _ ∧ k_ ≠ bM))) (fun k_ hk => (⟨hk, hk.1.2.2.2.1⟩ : _ ∧ k_ ≠ bF))) (fun _ hk => hk.1.2) (.slice Tm DL.length Vv)))) (fun _ hk => ⟨hk.1.1.1, hk.1.1.2.1⟩), fE⟩
 refine cT bF 31 #[.slice none 0 0, .slice none 0 0] jm Tryz.underlying31 ?_
 exact ⟨_, _, eR, by first | exact Kd.oQ _ _ _ _ _ | exact Kd.wI _ _ _ _ _ | exact Kd.sS _ _ _ _ _ | exact Kd.wK _ _ _ _ _ | exact Kd.tX _ _ _ _ _, by first | exact Kd.tX _ _ _ _ _ | exact Kd.wI _ _ _ _ _ | exact Kd.sS _ _ _ _ _ | exact Kd.wK _ _ _ _ _ | exact Kd.oQ _ _ _ _ _, jY⟩
end Go.Proofs.YtaofjgnhapnndaaGreatDoor.Q
