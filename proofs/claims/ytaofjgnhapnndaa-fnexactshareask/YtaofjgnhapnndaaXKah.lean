/- Texts that the row needs: words on memory and rows, the contracts of the functions it reaches, and the plain lemmas on what they compute. -/
import Derived.Test.YtaofjgnhapnndaaProg
import Derived.Below
import Derived.Deep.Draws
import Derived.Deep.AppendLies
import Derived.Maps.AppendAt
import Derived.OwnWalk
import Derived.Laws.BytesArg
import Derived.Laws.MakeOwn
import Derived.Laws.OwnMore
import Derived.Deep.OwnRows
import Derived.Tactics
import Derived.Lib.ConvBytes
import Derived.Laws.Slices
import Derived.WalkKit
import Derived.KernelRfl
import Derived.RowKit3
import Derived.Deep.LoopGhost
import Derived.Deep.QuietTactic
import Derived.BigQuiet
import Derived.WideLaws
import Derived.Deep.DeepCutAuto
import Derived.Deep.CutBlock
import Derived.Deep.RegionHeld3
import Derived.Laws.Rows
import Derived.Lib.AppendStr
import Derived.ArgAppend
import Derived.Laws.IdiomCopy
import Derived.OrdersHeld
import Derived.Laws.BitsLemmas
import Derived.RowKit
import Derived.WalkLawsBesides
import Derived.Laws.StructEq
import Derived.Shelf.Sort.Plain
import Derived.Shelf.Slices.In.SortNone2
import Derived.Shelf.Bodies
import Derived.Ground.NamesProg
import Derived.Test.YtaofjgnhapnndaaRows
import Derived.ProofKit
import Derived.Shelf.Slices.Cells
import Derived.Test.YtaofjgnhapnndaaXKaa
import Derived.Test.YtaofjgnhapnndaaXKab
import Derived.Test.YtaofjgnhapnndaaXKac
import Derived.Test.YtaofjgnhapnndaaXKad
import Derived.Test.YtaofjgnhapnndaaXKae
import Derived.Test.YtaofjgnhapnndaaXKaf
import Derived.Test.YtaofjgnhapnndaaXKag
open Go.Proofs.YtaofjgnhapnndaaFK
namespace Go.Proofs.Ytaofjgnhapnndaa.Q
open Go.RowKit Go.Proofs.YtaofjgnhapnndaaW.PrintWords Go.Proofs.YtaofjgnhapnndaaW.PrintLast Go.Proofs.YtaofjgnhapnndaaW.PrintMore
set_option linter.unusedVariables false
set_option linter.unusedSimpArgs false
open Go.Shelf Go.Lib Go.Sort
def lay_strs_ren : Go.Shelf.Ren :=
{
  f := fun x =>
    match x with
    | 192 => 107
    | 190 => 127
    | 125 => 125
    | 258 => 152
    | 128 => 142
    | 129 => 143
    | 302 => 158
    | 303 => 159
    | 304 => 160
    | 305 => 161
    | 306 => 162
    | 307 => 163
    | 308 => 164
    | 309 => 165
    | 310 => 166
    | 333 => 168
    | 329 => 169
    | 330 => 170
    | 334 => 171
    | 335 => 172
    | 336 => 173
    | 344 => 174
    | n => n,
  t := fun x =>
    match x with
    | 31 => 23
    | 0 => 0
    | 9 => 9
    | 3 => 3
    | 46 => 117
    | 51 => 127
    | 53 => 129
    | 4 => 4
    | 183 => 147
    | 182 => 146
    | 131 => 136
    | 5 => 5
    | 218 => 156
    | 222 => 143
    | 228 => 159
    | 229 => 154
    | n => n,
  g := fun x => x }
set_option maxRecDepth 100000 in
theorem lay_strs : Go.Proofs.Lays.n192 Try.prog lay_strs_ren :=
{ mixed := Eq.refl true, f125 := Eq.trans Try.func125 (congrArg some (Eq.refl (Body.n125 lay_strs_ren))),
  f128 := Eq.trans Try.func142 (congrArg some (Eq.refl (Body.n128 lay_strs_ren))),
  f129 := Eq.trans Try.func143 (congrArg some (Eq.refl (Body.n129 lay_strs_ren))),
  f190 := Eq.trans Try.func127 (congrArg some (Eq.refl (Body.n190 lay_strs_ren))),
  f192 := Eq.trans Try.func107 (congrArg some (Eq.refl (Body.n192 lay_strs_ren))),
  f258 := Eq.trans Try.func152 (congrArg some (Eq.refl (Body.n258 lay_strs_ren))),
  f302 := Eq.trans Try.func158 (congrArg some (Eq.refl (Body.n302 lay_strs_ren))),
  f303 := Eq.trans Try.func159 (congrArg some (Eq.refl (Body.n303 lay_strs_ren))),
  f304 := Eq.trans Try.func160 (congrArg some (Eq.refl (Body.n304 lay_strs_ren))),
  f305 := Eq.trans Try.func161 (congrArg some (Eq.refl (Body.n305 lay_strs_ren))),
  f306 := Eq.trans Try.func162 (congrArg some (Eq.refl (Body.n306 lay_strs_ren))),
  f307 := Eq.trans Try.func163 (congrArg some (Eq.refl (Body.n307 lay_strs_ren))),
  f308 := Eq.trans Try.func164 (congrArg some (Eq.refl (Body.n308 lay_strs_ren))),
  f309 := Eq.trans Try.func165 (congrArg some (Eq.refl (Body.n309 lay_strs_ren))),
  f310 := Eq.trans Try.func166 (congrArg some (Eq.refl (Body.n310 lay_strs_ren))),
  f329 := Eq.trans Try.func169 (congrArg some (Eq.refl (Body.n329 lay_strs_ren))),
  f330 := Eq.trans Try.func170 (congrArg some (Eq.refl (Body.n330 lay_strs_ren))),
  f333 := Eq.trans Try.func168 (congrArg some (Eq.refl (Body.n333 lay_strs_ren))),
  f334 := Eq.trans Try.func171 (congrArg some (Eq.refl (Body.n334 lay_strs_ren))),
  f335 := Eq.trans Try.func172 (congrArg some (Eq.refl (Body.n335 lay_strs_ren))),
  f336 := Eq.trans Try.func173 (congrArg some (Eq.refl (Body.n336 lay_strs_ren))),
  f344 := Eq.trans Try.func174 (congrArg some (Eq.refl (Body.n344 lay_strs_ren))), t0 := Try.underlying0,
  a0 := Try.isAgg0, z0 := Try.sizeOf0, v0 := Try.zeroValue0, t3 := Try.underlying3, a3 := Try.isAgg3, z3 := Try.sizeOf3,
  v3 := Try.zeroValue3, t4 := Try.underlying4, a4 := Try.isAgg4, z4 := Try.sizeOf4, v4 := Try.zeroValue4,
  t5 := Try.underlying5, a5 := Try.isAgg5, z5 := Try.sizeOf5, v5 := Try.zeroValue5, t9 := Try.underlying9,
  a9 := Try.isAgg9, z9 := Try.sizeOf9, v9 := Try.zeroValue9, t31 := Try.underlying23, a31 := Try.isAgg23,
  z31 := Try.sizeOf23, v31 := Try.zeroValue23, t46 := Try.underlying117, a46 := Try.isAgg117, z46 := Try.sizeOf117,
  v46 := Try.zeroValue117, t51 := Try.underlying127, a51 := Try.isAgg127, z51 := Try.sizeOf127, v51 := Try.zeroValue127,
  t53 := Try.underlying129, a53 := Try.isAgg129, z53 := Try.sizeOf129, v53 := Try.zeroValue129,
  t131 := Try.underlying136, a131 := Try.isAgg136, z131 := Try.sizeOf136, v131 := Try.zeroValue136,
  t182 := Try.underlying146, a182 := Try.isAgg146, z182 := Try.sizeOf146, v182 := Try.zeroValue146,
  t183 := Try.underlying147, a183 := Try.isAgg147, z183 := Try.sizeOf147, v183 := Try.zeroValue147,
  t218 := Try.underlying156, a218 := Try.isAgg156, z218 := Try.sizeOf156, v218 := Try.zeroValue156,
  t222 := Try.underlying143, a222 := Try.isAgg143, z222 := Try.sizeOf143, v222 := Try.zeroValue143,
  t228 := Try.underlying159, a228 := Try.isAgg159, z228 := Try.sizeOf159, v228 := Try.zeroValue159,
  t229 := Try.underlying154, a229 := Try.isAgg154, z229 := Try.sizeOf154, v229 := Try.zeroValue154 }
end Go.Proofs.Ytaofjgnhapnndaa.Q
namespace Go.Proofs.Ytaofjgnhapnndaa.Q
open Go.RowKit Go.Proofs.YtaofjgnhapnndaaW.PrintWords Go.Proofs.YtaofjgnhapnndaaW.PrintLast Go.Proofs.YtaofjgnhapnndaaW.PrintMore
set_option linter.unusedVariables false
set_option linter.unusedSimpArgs false
open Go.Shelf Go.Lib Go.Sort
def bl (s : ByteArray) : List UInt8 := s.data.toList
def mkB (l : List UInt8) : ByteArray := ⟨l.toArray⟩
theorem mk_bl (s : ByteArray) : mkB (bl s) = s := by cases s; simp [mkB, bl]
theorem bl_mk (l : List UInt8) : bl (mkB l) = l := by simp [mkB, bl]
def sortS (xs : List ByteArray) : List ByteArray := ((xs.map bl).mergeSort fun x y => decide (x ≤ y)).map mkB
def compS (xs : List ByteArray) : List ByteArray := (Lib.compact (xs.map bl)).map mkB
theorem sortS_bl (xs : List ByteArray) : (sortS xs).map bl = (xs.map bl).mergeSort fun x y => decide (x ≤ y) := by
  unfold sortS; rw [List.map_map, show bl ∘ mkB = id from funext bl_mk, List.map_id]
theorem sortS_len (xs : List ByteArray) : (sortS xs).length = xs.length := by unfold sortS; rw [List.length_map, List.length_mergeSort, List.length_map]
theorem enc_bl (s : ByteArray) : encStr (bl s) = .string s := by
  show Value.string _ = _
  congr 1
theorem R_toCells {w : World} {base c : Nat} {P : Nat → Prop} {A : Option Addr} {xs : List ByteArray} (h : Kd.R Kd.string 9 w base P (.slice A xs.length c) xs) :
    (A = none ∧ c = 0 ∧ xs = []) ∨ ∃ (g : Nat) (cur : Array Value), A = some ⟨g, 0, none⟩ ∧ P g ∧ base ≤ g ∧ w.heap[g]? = some (.cells cur 9 (0, 0)) ∧ cur.size = c ∧ xs.length ≤ c ∧ c ≤ maxLen ∧ cur.toList.take xs.length = xs.map Value.string := by
  obtain ⟨h0, inner, ho, hr⟩ := h
  obtain ⟨hil, ho⟩ := ho
  rcases ho with ⟨hv, ho⟩ | ⟨gb, cap, cur, hv, hbase, hheap, hncap, hcapm, hcur, htake⟩
  · injection hv with ha _ hc
    exact .inl ⟨ha, hc, List.length_eq_zero_iff.1 ho⟩
  · injection hv with ha _ hc
    subst ha; subst hc
    refine .inr ⟨gb, cur, rfl, h0 gb rfl, hbase, hheap, by rw [hcur]; exact Nat.mul_one _, hncap, hcapm, ?_⟩
    have ht : cur.toList.take xs.length = inner := by rw [← htake]; congr 1; exact (Nat.mul_one _).symm
    rw [ht]
    have hil2 : inner.length = xs.length := by rw [hil]; exact Nat.mul_one _
    refine List.ext_getElem (by rw [List.length_map]; exact hil2) fun j h1 h2 => ?_
    have hM := hr.2 j (xs[j]'(by omega)) (List.getElem?_eq_getElem (by omega))
    have hM2 : (inner.drop (j * 1)).take 1 = [Value.string (xs[j]'(by omega))] := hM
    rw [Nat.mul_one, List.drop_eq_getElem_cons h1, List.take_succ_cons, List.take_zero] at hM2
    rw [List.getElem_map]
    exact (List.cons.inj hM2).1
theorem R_ofCells {w : World} {base g c : Nat} {P : Nat → Prop} {ys : List ByteArray} {cs : Array Value} (hP : P g) (hb : base ≤ g) (hh : w.heap[g]? = some (.cells cs 9 (0, 0))) (hs : cs.size = c) (hn : ys.length ≤ c) (hm : c ≤ maxLen) (ht : cs.toList.take ys.length = ys.map Value.string) :
    Kd.R Kd.string 9 w base P (.slice (some ⟨g, 0, none⟩) ys.length c) ys := by
  refine ⟨fun k hk => by (have e : g = k := by simpa [Value.ownBlock] using hk); subst e; exact hP, ys.map Value.string, ⟨?_, ?_⟩, ?_, ?_⟩
  · rw [List.length_map]; show _ = _ * 1; omega
  · refine .inr ⟨g, c, cs, rfl, hb, hh, hn, hm, ?_, ?_⟩
    · show _ = _ * 1; omega
    · show List.take (ys.length * 1) _ = _; rw [Nat.mul_one]; exact ht
  · rw [List.length_map]; show _ = _ * 1; omega
  · intro j p hj
    have hjl : j < ys.length := (List.getElem?_eq_some_iff.1 hj).1
    show ((ys.map Value.string).drop (j * 1)).take 1 = [Value.string p]
    rw [Nat.mul_one, List.drop_eq_getElem_cons (by rw [List.length_map]; exact hjl), List.take_succ_cons, List.take_zero, List.getElem_map]
    rw [List.getElem?_eq_getElem hjl] at hj
    rw [Option.some.inj hj]
theorem holds_row {w : World} {g : Nat} {cur : Array Value} {xs : List ByteArray} (hh : w.heap[g]? = some (.cells cur 9 (0, 0))) (ht : cur.toList.take xs.length = xs.map Value.string) : Holds encStr w g 0 (xs.map bl).toArray := by
  intro j hj
  have hj2 : j < xs.length := by simpa using hj
  refine ⟨?_, blk_frozen hh _⟩
  rw [Nat.zero_add, blk_cell hh j, getElem!_pos _ j hj]
  have e : (cur.toList.take xs.length)[j]? = (xs.map Value.string)[j]? := by rw [ht]
  rw [List.getElem?_take, if_pos hj2, Array.getElem?_toList, List.getElem?_map, List.getElem?_eq_getElem hj2] at e
  rw [e]
  simp [enc_bl]
theorem putS_heap {w : World} {g : Nat} {t : TypeId} {cur : Array Value} {F : Array (List UInt8)} (h : w.heap[g]? = some (.cells cur t (0, 0))) : (putRow encStr w g 0 F).heap[g]? = some (.cells (putCells encStr 0 F cur) t (0, 0)) := by
  simp [putRow, mapBlock, Array.getElem?_modify, h, onCells]
theorem putS_else {w : World} {g k : Nat} {F : Array (List UInt8)} (h : k ≠ g) : (putRow encStr w g 0 F).heap[k]? = w.heap[k]? := by
  simp [putRow, mapBlock, Array.getElem?_modify, Ne.symm h]
theorem row_put {w : World} {g : Nat} {cur : Array Value} (d : List (List UInt8)) (n : Nat) (os : Array Obj) (hh : w.heap[g]? = some (.cells cur 9 (0, 0))) (hd : d.length ≤ cur.size) :
    ∃ cs : Array Value, (Sort.grow (putRow encStr (Sort.ahead w n) g 0 d.toArray) os).heap[g]? = some (.cells cs 9 (0, 0)) ∧ cs.size = cur.size ∧ cs.toList.take d.length = d.map encStr := by
  have hg : g < w.heap.size := blk_lt hh
  refine ⟨putCells encStr 0 d.toArray cur, ?_, ?_, ?_⟩
  · show (_ ++ os)[g]? = _
    rw [Array.getElem?_append, if_pos (by rw [size_putRow]; exact hg)]
    exact putS_heap (w := Sort.ahead w n) hh
  · unfold putCells; simp
  · refine List.ext_getElem? fun j => ?_
    by_cases hj : j < d.length
    · rw [List.getElem?_take, if_pos hj, Array.getElem?_toList, List.getElem?_map, List.getElem?_eq_getElem hj]
      have hjc : j < cur.size := by omega
      unfold putCells
      rw [Array.getElem?_mapIdx, Array.getElem?_eq_getElem hjc]
      simp [hj]
    · rw [List.getElem?_eq_none (by rw [List.length_take]; omega), List.getElem?_eq_none (by rw [List.length_map]; omega)]
theorem row_kept (w : World) (g n : Nat) (d : Array (List UInt8)) (os : Array Obj) : Kept w (Sort.grow (putRow encStr (Sort.ahead w n) g 0 d) os) (fun k => k = g) := by
  refine ⟨?_, fun k hk hne => ?_⟩
  · show _ ≤ (_ ++ os).size; rw [Array.size_append, size_putRow]; exact Nat.le_add_right _ _
  · show (_ ++ os)[k]? = _
    rw [Array.getElem?_append, if_pos (by rw [size_putRow]; exact hk)]
    exact putS_else (w := Sort.ahead w n) hne
theorem row_below {w0 w : World} {g : Nat} (n : Nat) (d : Array (List UInt8)) (os : Array Obj) (hB : Go.RowKit.Below w0.heap.size w0 w) (hb : w0.heap.size ≤ g) : Go.RowKit.Below w0.heap.size w0 (Sort.grow (putRow encStr (Sort.ahead w n) g 0 d) os) := by
  have hk := row_kept w g n d os
  exact ⟨hB.os, hB.tape, hB.output, Nat.le_trans hB.size hk.1, fun k hk2 => by rw [hk.2 k (Nat.lt_of_lt_of_le hk2 hB.size) (by omega)]; exact hB.block k hk2⟩
theorem sort_R {w0 w : World} {c : Nat} {P : Nat → Prop} {A : Option Addr} {xs : List ByteArray} (h : Kd.R Kd.string 9 w w0.heap.size P (.slice A xs.length c) xs) (hB : Go.RowKit.Below w0.heap.size w0 w) (hl : xs.length < 4611686018427387904) :
    Calls Try.prog 107 #[.slice A xs.length c] w fun e w' => e = .returned (.tuple #[]) ∧ Kd.R Kd.string 9 w' w0.heap.size P (.slice A xs.length c) (sortS xs) ∧ Go.RowKit.Below w0.heap.size w0 w' ∧ Kept w w' P := by
  rcases R_toCells h with ⟨rfl, rfl, rfl⟩ | ⟨g, cur, rfl, hP, hb, hh, hs, hn, hm, ht⟩
  · have hS := Any.sort_Strings_none lay_strs none 0 w
    change Calls Try.prog 107 _ _ _ at hS
    refine hS.mono ?_
    rintro e w' ⟨rfl, rfl⟩
    have e0 : sortS [] = [] := by simp [sortS]
    rw [e0]
    exact ⟨rfl, Kd.R_nil _ _ _ _ _, hB, Kept.refl _ _⟩
  · have hS := Any.sort_Strings lay_strs g 0 c (xs.map bl) w (holds_row hh ht) (blk_lt hh) (by rw [List.length_map]; exact hl)
    change Calls Try.prog 107 _ _ _ at hS
    rw [List.length_map] at hS
    refine hS.mono ?_
    rintro e w' ⟨rfl, n, os, rfl⟩
    rw [← sortS_bl]
    obtain ⟨cs, q1, q2, q3⟩ := row_put ((sortS xs).map bl) n os hh (by rw [List.length_map, sortS_len]; omega)
    refine ⟨rfl, ?_, row_below _ _ _ hB hb, Kept.mono (row_kept _ _ _ _ _) (fun k e => e ▸ hP)⟩
    have := R_ofCells (ys := sortS xs) hP hb q1 (q2.trans hs) (by rw [sortS_len]; exact hn) hm (by rw [List.length_map] at q3; rw [q3, List.map_map]; exact List.map_congr_left (fun s _ => enc_bl s))
    rwa [sortS_len] at this
theorem compS_bl (xs : List ByteArray) : (compS xs).map bl = Lib.compact (xs.map bl) := by
  unfold compS; rw [List.map_map, show bl ∘ mkB = id from funext bl_mk, List.map_id]
theorem compS_len (xs : List ByteArray) : (compS xs).length = (Lib.compact (xs.map bl)).length := by unfold compS; rw [List.length_map]
theorem compact_R {w0 w : World} {c : Nat} {P : Nat → Prop} {A : Option Addr} {xs : List ByteArray} (h : Kd.R Kd.string 9 w w0.heap.size P (.slice A xs.length c) xs) (hB : Go.RowKit.Below w0.heap.size w0 w) :
    Calls Try.prog 108 #[.slice A xs.length c] w fun e w' => e = .returned (.slice A (compS xs).length c) ∧ Kd.R Kd.string 9 w' w0.heap.size P (.slice A (compS xs).length c) (compS xs) ∧ Go.RowKit.Below w0.heap.size w0 w' ∧ Kept w w' P := by
  have hbig : xs.length ≤ 9223372036854775807 := (Kd.R_reads' h).2.2.2.1
  rcases R_toCells h with ⟨rfl, rfl, rfl⟩ | ⟨g, cur, rfl, hP, hb, hh, hs, hn, hm, ht⟩
  · have hS := Any.slices_Compact_string_empty lay_comp none 0 w
    change Calls Try.prog 108 _ _ _ at hS
    refine hS.mono ?_
    rintro e w' ⟨rfl, rfl⟩
    have e0 : compS [] = [] := by simp [compS, Lib.compact, Lib.compactUpTo]
    rw [e0]
    exact ⟨rfl, Kd.R_nil _ _ _ _ _, hB, Kept.refl _ _⟩
  · have hle := Lib.compact_length_le (xs.map bl)
    rw [List.length_map, ← compS_len] at hle
    have hS := Any.slices_Compact_string lay_comp g 0 c (xs.map bl) w (holds_row hh ht) (by rw [List.length_map]; exact hbig) (by rw [List.length_map]; exact hn)
    change Calls Try.prog 108 _ _ _ at hS
    rw [List.length_map] at hS
    refine hS.mono ?_
    rintro e w' ⟨rfl, n, rfl⟩
    rw [← compS_len, ← compS_bl]
    obtain ⟨cs, q1, q2, q3⟩ := row_put ((compS xs).map bl ++ List.replicate (xs.length - (compS xs).length) []) n #[] hh (by rw [List.length_append, List.length_map, List.length_replicate]; omega)
    rw [Sort.grow_empty] at q1
    have k1 := row_kept w g n ((compS xs).map bl ++ List.replicate (xs.length - (compS xs).length) []).toArray #[]
    have k2 := row_below n ((compS xs).map bl ++ List.replicate (xs.length - (compS xs).length) []).toArray #[] hB hb
    rw [Sort.grow_empty] at k1 k2
    refine ⟨rfl, R_ofCells (ys := compS xs) hP hb q1 (q2.trans hs) (by omega) hm ?_, k2, Kept.mono k1 (fun k e => e ▸ hP)⟩
    have q4 : (cs.toList.take ((compS xs).map bl ++ List.replicate (xs.length - (compS xs).length) []).length).take (compS xs).length = _ := congrArg (List.take (compS xs).length) q3
    rw [List.take_take, List.length_append, List.length_map, Nat.min_eq_left (Nat.le_add_right _ _), List.map_append, List.take_append_of_le_length (by rw [List.length_map, List.length_map]; exact Nat.le_refl _)] at q4
    rw [q4, List.take_of_length_le (by rw [List.length_map, List.length_map]; exact Nat.le_refl _), List.map_map]
    exact List.map_congr_left (fun s _ => enc_bl s)
end Go.Proofs.Ytaofjgnhapnndaa.Q
namespace Go.Proofs.Ytaofjgnhapnndaa.Q
open Go.RowKit Go.Proofs.YtaofjgnhapnndaaW.PrintWords Go.Proofs.YtaofjgnhapnndaaW.PrintLast Go.Proofs.YtaofjgnhapnndaaW.PrintMore
set_option linter.unusedVariables false
set_option linter.unusedSimpArgs false
def sort_Strings.f (l0 : List ByteArray) : Option (List ByteArray) := if l0.length < 4611686018427387904 then some (sortS l0) else none
theorem sort_Strings.calls (P0_ : Nat → Prop) (v0 : Value) (l0 : List ByteArray) (r1 : List ByteArray) (w0 w : World) (hB : Below w0.heap.size w0 w) (ho0 : Kd.R Kd.string 9 w w0.heap.size P0_ v0 l0) (h : sort_Strings.f l0 = some r1) :
  Calls Try.prog 107 #[v0] w fun e w' => e = .returned (.tuple #[]) ∧ Kd.R Kd.string 9 w' w0.heap.size P0_ v0 r1 ∧ Below w0.heap.size w0 w' ∧ Kept w w' P0_ := by
 unfold sort_Strings.f at h
 by_cases hl : l0.length < 4611686018427387904
 ·rw [if_pos hl] at h
  obtain rfl := Option.some.inj h
  obtain ⟨A, c, rfl⟩ := Kd.R_slice ho0
  exact sort_R ho0 hB hl
 ·rw [if_neg hl] at h
  cases h
end Go.Proofs.Ytaofjgnhapnndaa.Q
namespace Go.Proofs.Ytaofjgnhapnndaa.Q
open Go.RowKit Go.Proofs.YtaofjgnhapnndaaW.PrintWords Go.Proofs.YtaofjgnhapnndaaW.PrintLast Go.Proofs.YtaofjgnhapnndaaW.PrintMore
set_option linter.unusedVariables false
set_option linter.unusedSimpArgs false
def slices_Compact_string_string.f (l0 : List ByteArray) : Option (List ByteArray) := some (compS l0)
theorem slices_Compact_string_string.calls (P0_ : Nat → Prop) (v0 : Value) (l0 : List ByteArray) (r1 : List ByteArray) (w0 w : World) (hB : Below w0.heap.size w0 w) (ho0 : Kd.R Kd.string 9 w w0.heap.size P0_ v0 l0) (h : slices_Compact_string_string.f l0 = some r1) :
  Calls Try.prog 108 #[v0] w fun e w' => ∃ v0_ : Value, e = .returned (v0_) ∧ Kd.R Kd.string 9 w' w0.heap.size (fun k_ => P0_ k_ ∨ w.heap.size ≤ k_) v0_ r1 ∧ Below w0.heap.size w0 w' ∧ Kept w w' P0_ := by
 obtain rfl := Option.some.inj h
 obtain ⟨A, c, rfl⟩ := Kd.R_slice ho0
 refine (compact_R ho0 hB).mono ?_
 rintro e w' ⟨he, hr, hb, hk⟩
 exact ⟨_, he, Kd.R_mono hr (fun k h => Or.inl h), hb, hk⟩
end Go.Proofs.Ytaofjgnhapnndaa.Q
namespace Go.Proofs.Ytaofjgnhapnndaa.Q
open Go.RowKit Go.Proofs.YtaofjgnhapnndaaW.PrintWords Go.Proofs.YtaofjgnhapnndaaW.PrintLast Go.Proofs.YtaofjgnhapnndaaW.PrintMore
set_option linter.unusedVariables false
set_option linter.unusedSimpArgs false
def slices_Index_string_string.l0 : Nat → List ByteArray → ByteArray → Int → Int → Option (Int)
 | 0, _, _, _, _ => none
 | k + 1, x0, x1, x7, x8 => if x8 < x7 then (if 0 ≤ x8 then (if x8 < (x0.length : Int) then (if x1.toList = (rdOf ByteArray.empty x0 x8).toList then (some x8) else (slices_Index_string_string.l0 k x0 x1 x7 (wrap64 (x8 + 1)))) else (none)) else (none)) else (some (-1))
def slices_Index_string_string.f (k : Nat) (l0 : List ByteArray) (a1 : ByteArray) : Option (Int) := slices_Index_string_string.l0 k l0 a1 (l0.length : Int) 0
theorem slices_Index_string_string.mono_l : ∀ k, (∀ y0 y1 y2 y3, LeO (slices_Index_string_string.l0 k y0 y1 y2 y3) (slices_Index_string_string.l0 (k + 1) y0 y1 y2 y3))
 | 0 => fun _ _ _ _ r h => by simp [slices_Index_string_string.l0] at h
 | k + 1 => by
  have ih0 := slices_Index_string_string.mono_l k
  ·intro y0 y1 y2 y3
   unfold slices_Index_string_string.l0
   repeat' first
   | (with_reducible exact ih0 _ _ _ _)
   | (with_reducible exact LeO.refl _)
   | (with_reducible exact LeO.none _)
   | (with_reducible refine LeO.ite ?_ ?_)
   | (with_reducible refine LeO.bind ?_ (fun _ => ?_))
   | exact ih0 _ _ _ _
   | exact LeO.none _
   | refine LeO.ite ?_ ?_
   | refine LeO.bind ?_ (fun _ => ?_)
theorem slices_Index_string_string.mono : ∀ a0 a1 k, LeO (slices_Index_string_string.f k a0 a1) (slices_Index_string_string.f (k + 1) a0 a1) := by
 intro a0 a1 k
 have ih0 := slices_Index_string_string.mono_l k
 unfold slices_Index_string_string.f
 repeat' first
   | (with_reducible exact ih0 _ _ _ _)
   | (with_reducible exact LeO.refl _)
   | (with_reducible exact LeO.none _)
   | (with_reducible refine LeO.ite ?_ ?_)
   | (with_reducible refine LeO.bind ?_ (fun _ => ?_))
   | exact ih0 _ _ _ _
   | exact LeO.none _
   | refine LeO.ite ?_ ?_
   | refine LeO.bind ?_ (fun _ => ?_)
set_option maxHeartbeats 8000000 in
set_option maxRecDepth 100000 in
theorem slices_Index_string_string.calls (k : Nat) (A0 : Option Addr) (c0 : Nat) (l0 : List ByteArray) (a1 : ByteArray) (r : Int) (w : World) (hr0 : Kd.C Kd.string w A0 l0.length l0) (hc0 : l0.length ≤ c0) (h : slices_Index_string_string.f k l0 a1 = some r) :
  Calls Try.prog 116 #[.slice A0 l0.length c0, .string a1] w fun e w' => e = .returned (.int .i64 r) ∧ Drawn0 w w' := by
 have HR0 := am hr0
 have HC0 := am hc0
 clear hr0 hc0
 have H : (slices_Index_string_string.l0 k l0 a1 (l0.length : Int) 0) = some r := h
 clear h
 have H' := am H
 clear H
 go_enter Try.func116, Try.ntmps116
 go_wp2
 go_loopg [8] k (fun kq v8 w' => ∃ (x8_1 : Int), v8 = .int .i64 x8_1 ∧ Aside0 (slices_Index_string_string.l0 kq l0 a1 (l0.length : Int) x8_1 = some r) ∧ Aside0 (kq ≤ k) ∧ Drawn0 w w')
 case atStart => exact ⟨(0), (pY83), H', ⟨Nat.le_refl _⟩, pY80⟩
 case round =>
  clear H'
  obtain ⟨x8_1, rfl, HA, HK1, ⟨m1, rfl⟩⟩ := hrel
  cases gk with
  | zero => exact absurd HA.out (by simp [slices_Index_string_string.l0])
  | succ k1 =>
   have H := HA.out
   clear HA
   simp only [slices_Index_string_string.l0] at H
   by_cases c3 : x8_1 < (l0.length : Int)
   ·rw [if_pos c3] at H
    have c3b0 : decide (x8_1 < (l0.length : Int)) = true := decide_eq_true c3
    clear c3
    by_cases c4 : 0 ≤ x8_1
    ·rw [if_pos c4] at H
     have c4b0 : decide (0 ≤ x8_1) = true := decide_eq_true c4
     clear c4
     by_cases c5 : x8_1 < (l0.length : Int)
     ·rw [if_pos c5] at H
      have c5b0 : decide (x8_1 < (l0.length : Int)) = true := decide_eq_true c5
      clear c5
      by_cases c6 : a1.toList = (rdOf ByteArray.empty l0 x8_1).toList
      ·rw [if_pos c6] at H
       have c6b0 : (a1.toList == (rdOf ByteArray.empty l0 x8_1).toList) = true := beq_iff_eq.mpr c6
       have c6b1 : (a1.toList != (rdOf ByteArray.empty l0 x8_1).toList) = false := bne_eq_false_iff_eq.mpr c6
       clear c6
       obtain rfl := Option.some.inj H
       have p101 : 0 ≤ (x8_1 : Int) := of_decide_eq_true (pY82)
       have q101 : x8_1 < (l0.length : Int) := of_decide_eq_true (pY82)
       obtain ⟨ad101, e101, hx101_0⟩ := Kd.at_string HR0.1 x8_1 p101 q101
       cases e101
       replace p101 := eq_true p101
       replace q101 := eq_true q101
       go_wp2
       go_ret
       exact ⟨by first | rfl | (simp; done) | (simp [*]; done), pY80⟩
      ·rw [if_neg c6] at H
       have c6b0 : (a1.toList == (rdOf ByteArray.empty l0 x8_1).toList) = false := beq_eq_false_iff_ne.mpr c6
       have c6b1 : (a1.toList != (rdOf ByteArray.empty l0 x8_1).toList) = true := bne_iff_ne.mpr c6
       have H' := am H
       clear H
       have p101 : 0 ≤ (x8_1 : Int) := of_decide_eq_true (pY82)
       have q101 : x8_1 < (l0.length : Int) := of_decide_eq_true (pY82)
       obtain ⟨ad101, e101, hx101_0⟩ := Kd.at_string HR0.1 x8_1 p101 q101
       cases e101
       replace p101 := eq_true p101
       replace q101 := eq_true q101
       go_wp2
       go_roundg k1
       case measure => have := HK1.out; omega
       case rel => exact ⟨(wrap64 (x8_1 + 1)), (pY83), H', ⟨by have := HK1.out; omega⟩, pY80⟩
     ·rw [if_neg c5] at H
      exact absurd H (by simp)
    ·rw [if_neg c4] at H
     exact absurd H (by simp)
   ·rw [if_neg c3] at H
    have c3b0 : decide (x8_1 < (l0.length : Int)) = false := decide_eq_false c3
    clear c3
    obtain rfl := Option.some.inj H
    go_wp2
    go_ret
    exact ⟨by first | rfl | (simp; done) | (simp [*]; done), pY80⟩
end Go.Proofs.Ytaofjgnhapnndaa.Q
namespace Go.Proofs.Ytaofjgnhapnndaa.Q
open Go.RowKit Go.Proofs.YtaofjgnhapnndaaW.PrintWords Go.Proofs.YtaofjgnhapnndaaW.PrintLast Go.Proofs.YtaofjgnhapnndaaW.PrintMore
set_option linter.unusedVariables false
set_option linter.unusedSimpArgs false
def slices_Contains_string_string.f (k : Nat) (l0 : List ByteArray) (a1 : ByteArray) : Option (Bool) := (slices_Index_string_string.f k l0 a1).bind fun t101 => (some (decide (t101 ≥ 0)))
theorem slices_Contains_string_string.mono : ∀ a0 a1 k, LeO (slices_Contains_string_string.f k a0 a1) (slices_Contains_string_string.f (k + 1) a0 a1) := by
 intro a0 a1 k
 unfold slices_Contains_string_string.f
 repeat' first
   | (with_reducible exact slices_Index_string_string.mono _ _ _)
   | (with_reducible exact LeO.refl _)
   | (with_reducible exact LeO.none _)
   | (with_reducible refine LeO.ite ?_ ?_)
   | (with_reducible refine LeO.bind ?_ (fun _ => ?_))
   | exact slices_Index_string_string.mono _ _ _
   | exact LeO.none _
   | refine LeO.ite ?_ ?_
   | refine LeO.bind ?_ (fun _ => ?_)
set_option maxHeartbeats 8000000 in
set_option maxRecDepth 100000 in
theorem slices_Contains_string_string.calls (k : Nat) (A0 : Option Addr) (c0 : Nat) (l0 : List ByteArray) (a1 : ByteArray) (r : Bool) (w : World) (hr0 : Kd.C Kd.string w A0 l0.length l0) (hc0 : l0.length ≤ c0) (h : slices_Contains_string_string.f k l0 a1 = some r) :
  Calls Try.prog 81 #[.slice A0 l0.length c0, .string a1] w fun e w' => e = .returned (.bool r) ∧ Drawn0 w w' := by
 have HR0 := am hr0
 have HC0 := am hc0
 clear hr0 hc0
 have H : ((slices_Index_string_string.f k l0 a1).bind fun t101 => (some (decide (t101 ≥ 0)))) = some r := h
 clear h
 obtain ⟨t101, A3, H⟩ := bd H
 obtain rfl := Option.some.inj H
 go_enter Try.func81, Try.ntmps81
 go_wp2_with (first | ((with_reducible refine gate_callee (f := 116) rfl ?_); refine goesL_ (some 7) rfl rfl Try.func116 (by kernel_rfl) rfl #[.slice A0 l0.length c0, .string a1] rfl (pY54) ?_; (with_reducible refine (slices_Index_string_string.calls k _ _ l0 a1 t101 _ ?side1 ?side2 A3.out).mono ?_); (case side1 => exact pC HR0.1); (case side2 => exact HC0.1); rintro e w' ⟨rfl, ⟨nd, rfl⟩⟩; refine ⟨_, rfl, ?_⟩))
 go_ret
 exact ⟨by first | rfl | (simp; done) | (simp [*]; done), pY80⟩
end Go.Proofs.Ytaofjgnhapnndaa.Q
namespace Go.Proofs.Ytaofjgnhapnndaa.Q
open Go.RowKit Go.Proofs.YtaofjgnhapnndaaW.PrintWords Go.Proofs.YtaofjgnhapnndaaW.PrintLast Go.Proofs.YtaofjgnhapnndaaW.PrintMore
set_option linter.unusedVariables false
set_option linter.unusedSimpArgs false
def impl_of.l0 : Nat → List ByteArray → List ByteArray → List ByteArray → Int → Int → Option (Bool)
 | 0, _, _, _, _, _ => none
 | k + 1, x0, x1, x7, x8, x9 => if x9 < x8 then (if 0 ≤ x9 then (if x9 < (x7.length : Int) then ((slices_Contains_string_string.f k x1 (rdOf ByteArray.empty x7 x9)).bind fun t102 => (if t102 = true then (if x9 > 0 then (if 0 ≤ (wrap64 (x9 - 1)) then (if (wrap64 (x9 - 1)) < (x0.length : Int) then (if ((Op.bytesLess ((rdOf ByteArray.empty x0 (wrap64 (x9 - 1))).toList) ((rdOf ByteArray.empty x7 x9).toList)) = true) then (impl_of.l0 k x0 x1 x7 x8 (wrap64 (x9 + 1))) else (some false)) else (none)) else (none)) else (impl_of.l0 k x0 x1 x7 x8 (wrap64 (x9 + 1)))) else (some false))) else (none)) else (none)) else (some true)
def impl_of.f (k : Nat) (l0 : List ByteArray) (l1 : List ByteArray) : Option (Bool) := impl_of.l0 k l0 l1 l0 (l0.length : Int) 0
set_option maxHeartbeats 8000000 in
set_option maxRecDepth 100000 in
theorem impl_of.calls (k : Nat) (A0 : Option Addr) (c0 : Nat) (l0 : List ByteArray) (A1 : Option Addr) (c1 : Nat) (l1 : List ByteArray) (r : Bool) (w : World) (hr0 : Kd.C Kd.string w A0 l0.length l0) (hc0 : l0.length ≤ c0) (hr1 : Kd.C Kd.string w A1 l1.length l1) (hc1 : l1.length ≤ c1) (h : impl_of.f k l0 l1 = some r) :
  Calls Try.prog 74 #[.slice A0 l0.length c0, .slice A1 l1.length c1] w fun e w' => e = .returned (.bool r) ∧ Drawn0 w w' := by
 have HR0 := am hr0
 have HC0 := am hc0
 clear hr0 hc0
 have HR1 := am hr1
 have HC1 := am hc1
 clear hr1 hc1
 have H : (impl_of.l0 k l0 l1 l0 (l0.length : Int) 0) = some r := h
 clear h
 have H' := am H
 clear H
 go_enter Try.func74, Try.ntmps74
 go_wp2
 go_loopg [9] k (fun kq v9 w' => ∃ (x9_1 : Int), v9 = .int .i64 x9_1 ∧ Aside0 (impl_of.l0 kq l0 l1 l0 (l0.length : Int) x9_1 = some r) ∧ Aside0 (kq ≤ k) ∧ Drawn0 w w')
 case atStart => exact ⟨(0), (pY83), H', ⟨Nat.le_refl _⟩, pY80⟩
 case round =>
  clear H'
  try clear c1
  obtain ⟨x9_1, rfl, HA, HK1, ⟨m1, rfl⟩⟩ := hrel
  cases gk with
  | zero => exact absurd HA.out (by simp [impl_of.l0])
  | succ k1 =>
   have H := HA.out
   clear HA
   simp only [impl_of.l0] at H
   by_cases c3 : x9_1 < (l0.length : Int)
   ·rw [if_pos c3] at H
    have c3b0 : decide (x9_1 < (l0.length : Int)) = true := decide_eq_true c3
    clear c3
    by_cases c4 : 0 ≤ x9_1
    ·rw [if_pos c4] at H
     have c4b0 : decide (0 ≤ x9_1) = true := decide_eq_true c4
     clear c4
     by_cases c5 : x9_1 < (l0.length : Int)
     ·rw [if_pos c5] at H
      have c5b0 : decide (x9_1 < (l0.length : Int)) = true := decide_eq_true c5
      clear c5
      obtain ⟨t102, A6, H⟩ := bd H
      by_cases c7 : t102 = true
      ·subst c7
       replace H := iT H
       by_cases c8 : x9_1 > 0
       ·rw [if_pos c8] at H
        have c8b0 : decide (0 < x9_1) = true := decide_eq_true c8
        clear c8
        obtain ⟨ji9, hji9⟩ : ∃ j_ : Int, (wrap64 (x9_1 - 1)) = j_ := ⟨_, rfl⟩
        replace H : (if 0 ≤ (ji9) then (if (ji9) < (l0.length : Int) then (if ((Op.bytesLess ((rdOf ByteArray.empty l0 (ji9)).toList) ((rdOf ByteArray.empty l0 x9_1).toList)) = true) then (impl_of.l0 k1 l0 l1 l0 (l0.length : Int) (wrap64 (x9_1 + 1))) else (some false)) else (none)) else (none)) = some r := by first | (rw [hji9] at H; exact H) | (simp only [hji9] at H ⊢; exact H)
        (try rw [hji9] at A6)
        have hji9w : (IntKind.i64.wrap (x9_1 - 1)) = ji9 := (i64_w _).trans hji9
        by_cases c10 : 0 ≤ (ji9)
        ·rw [if_pos c10] at H
         have c10b0 : decide (0 ≤ (ji9)) = true := decide_eq_true c10
         clear c10
         by_cases c11 : (ji9) < (l0.length : Int)
         ·rw [if_pos c11] at H
          have c11b0 : decide ((ji9) < (l0.length : Int)) = true := decide_eq_true c11
          clear c11
          by_cases c12 : ((Op.bytesLess ((rdOf ByteArray.empty l0 (ji9)).toList) ((rdOf ByteArray.empty l0 x9_1).toList)) = true)
          ·rw [if_pos c12] at H
           have c12b0 : (Op.bytesLess ((rdOf ByteArray.empty l0 (ji9)).toList) ((rdOf ByteArray.empty l0 x9_1).toList)) = true := c12
           clear c12
           have H' := am H
           clear H
           have p101 : 0 ≤ (x9_1 : Int) := of_decide_eq_true (pY82)
           have q101 : x9_1 < (l0.length : Int) := of_decide_eq_true (pY82)
           obtain ⟨ad101, e101, hx101_0⟩ := Kd.at_string HR0.1 x9_1 p101 q101
           cases e101
           replace p101 := eq_true p101
           replace q101 := eq_true q101
           go_wp2_with (first | ((with_reducible refine gate_callee (f := 81) rfl ?_); refine goesL_ (some 16) rfl rfl Try.func81 (by kernel_rfl) rfl #[.slice A1 l1.length c1, .string (rdOf ByteArray.empty l0 x9_1)] rfl (pY54) ?_; (with_reducible refine (slices_Contains_string_string.calls k1 _ _ l1 (rdOf ByteArray.empty l0 x9_1) true _ ?side1 ?side2 A6.out).mono ?_); (case side1 => exact pC HR1.1); (case side2 => exact HC1.1); rintro e w' ⟨rfl, ⟨nd, rfl⟩⟩; refine ⟨_, rfl, ?_⟩; have p103 : 0 ≤ ((ji9) : Int) := of_decide_eq_true (pY82); have q103 : (ji9) < (l0.length : Int) := of_decide_eq_true (pY82); obtain ⟨ad103, e103, hx103_0⟩ := Kd.at_string HR0.1 (ji9) p103 q103; obtain rfl : ad101 = ad103 := (by injection e103); replace p103 := eq_true p103; replace q103 := eq_true q103))
           go_roundg k1
           case measure => have := HK1.out; omega
           case rel => exact ⟨(wrap64 (x9_1 + 1)), (pY83), H', ⟨by have := HK1.out; omega⟩, pY80⟩
          ·rw [if_neg c12] at H
           have c12b0 : (Op.bytesLess ((rdOf ByteArray.empty l0 (ji9)).toList) ((rdOf ByteArray.empty l0 x9_1).toList)) = false := by simpa using c12
           clear c12
           obtain rfl := Option.some.inj H
           have p101 : 0 ≤ (x9_1 : Int) := of_decide_eq_true (pY82)
           have q101 : x9_1 < (l0.length : Int) := of_decide_eq_true (pY82)
           obtain ⟨ad101, e101, hx101_0⟩ := Kd.at_string HR0.1 x9_1 p101 q101
           cases e101
           replace p101 := eq_true p101
           replace q101 := eq_true q101
           go_wp2_with (first | ((with_reducible refine gate_callee (f := 81) rfl ?_); refine goesL_ (some 16) rfl rfl Try.func81 (by kernel_rfl) rfl #[.slice A1 l1.length c1, .string (rdOf ByteArray.empty l0 x9_1)] rfl (pY54) ?_; (with_reducible refine (slices_Contains_string_string.calls k1 _ _ l1 (rdOf ByteArray.empty l0 x9_1) true _ ?side1 ?side2 A6.out).mono ?_); (case side1 => exact pC HR1.1); (case side2 => exact HC1.1); rintro e w' ⟨rfl, ⟨nd, rfl⟩⟩; refine ⟨_, rfl, ?_⟩; have p103 : 0 ≤ ((ji9) : Int) := of_decide_eq_true (pY82); have q103 : (ji9) < (l0.length : Int) := of_decide_eq_true (pY82); obtain ⟨ad103, e103, hx103_0⟩ := Kd.at_string HR0.1 (ji9) p103 q103; obtain rfl : ad101 = ad103 := (by injection e103); replace p103 := eq_true p103; replace q103 := eq_true q103))
           go_ret
           exact ⟨by first | rfl | (simp; done) | (simp only [← hji9] <;> (first | rfl | simp)) | (simp [*]; done), pY80⟩
         ·rw [if_neg c11] at H
          exact absurd H (by simp)
        ·rw [if_neg c10] at H
         exact absurd H (by simp)
       ·rw [if_neg c8] at H
        have c8b0 : decide (0 < x9_1) = false := decide_eq_false c8
        clear c8
        have H' := am H
        clear H
        have p101 : 0 ≤ (x9_1 : Int) := of_decide_eq_true (pY82)
        have q101 : x9_1 < (l0.length : Int) := of_decide_eq_true (pY82)
        obtain ⟨ad101, e101, hx101_0⟩ := Kd.at_string HR0.1 x9_1 p101 q101
        cases e101
        replace p101 := eq_true p101
        replace q101 := eq_true q101
        go_wp2_with (first | ((with_reducible refine gate_callee (f := 81) rfl ?_); refine goesL_ (some 16) rfl rfl Try.func81 (by kernel_rfl) rfl #[.slice A1 l1.length c1, .string (rdOf ByteArray.empty l0 x9_1)] rfl (pY54) ?_; (with_reducible refine (slices_Contains_string_string.calls k1 _ _ l1 (rdOf ByteArray.empty l0 x9_1) true _ ?side1 ?side2 A6.out).mono ?_); (case side1 => exact pC HR1.1); (case side2 => exact HC1.1); rintro e w' ⟨rfl, ⟨nd, rfl⟩⟩; refine ⟨_, rfl, ?_⟩))
        go_roundg k1
        case measure => have := HK1.out; omega
        case rel => exact ⟨(wrap64 (x9_1 + 1)), (pY83), H', ⟨by have := HK1.out; omega⟩, pY80⟩
      ·replace c7 := Bool.eq_false_iff.mpr c7
       subst c7
       replace H := iF H
       obtain rfl := Option.some.inj H
       have p101 : 0 ≤ (x9_1 : Int) := of_decide_eq_true (pY82)
       have q101 : x9_1 < (l0.length : Int) := of_decide_eq_true (pY82)
       obtain ⟨ad101, e101, hx101_0⟩ := Kd.at_string HR0.1 x9_1 p101 q101
       cases e101
       replace p101 := eq_true p101
       replace q101 := eq_true q101
       go_wp2_with (first | ((with_reducible refine gate_callee (f := 81) rfl ?_); refine goesL_ (some 16) rfl rfl Try.func81 (by kernel_rfl) rfl #[.slice A1 l1.length c1, .string (rdOf ByteArray.empty l0 x9_1)] rfl (pY54) ?_; (with_reducible refine (slices_Contains_string_string.calls k1 _ _ l1 (rdOf ByteArray.empty l0 x9_1) false _ ?side1 ?side2 A6.out).mono ?_); (case side1 => exact pC HR1.1); (case side2 => exact HC1.1); rintro e w' ⟨rfl, ⟨nd, rfl⟩⟩; refine ⟨_, rfl, ?_⟩))
       go_ret
       exact ⟨by first | rfl | (simp; done) | (simp [*]; done), pY80⟩
     ·rw [if_neg c5] at H
      exact absurd H (by simp)
    ·rw [if_neg c4] at H
     exact absurd H (by simp)
   ·rw [if_neg c3] at H
    have c3b0 : decide (x9_1 < (l0.length : Int)) = false := decide_eq_false c3
    clear c3
    obtain rfl := Option.some.inj H
    go_wp2
    go_ret
    exact ⟨by first | rfl | (simp; done) | (simp [*]; done), pY80⟩
end Go.Proofs.Ytaofjgnhapnndaa.Q
namespace Go.Proofs.Ytaofjgnhapnndaa.Q
open Go.RowKit Go.Proofs.YtaofjgnhapnndaaW.PrintWords Go.Proofs.YtaofjgnhapnndaaW.PrintLast Go.Proofs.YtaofjgnhapnndaaW.PrintMore
set_option linter.unusedVariables false
set_option linter.unusedSimpArgs false
def hasS (l : List ByteArray) (s : ByteArray) : Bool := l.any fun x => s.toList == x.toList
theorem wrap_succ {i n : Nat} (h : i < n) (hn : n ≤ 9223372036854775807) : wrap64 ((i : Int) + 1) = ((i + 1 : Nat) : Int) := by
  unfold wrap64; omega
theorem rdOf_nat {α : Type} (d : α) (l : List α) (i : Nat) (h : i < l.length) : rdOf d l (i : Int) = l[i] := by
  unfold rdOf; simp [List.getD_eq_getElem?_getD, h]
theorem index_go (l : List ByteArray) (s : ByteArray) (hl : l.length ≤ 9223372036854775807) : ∀ (d k i : Nat), l.length - i = d → i ≤ l.length → d < k →
    ∃ r, slices_Index_string_string.l0 k l s (l.length : Int) (i : Int) = some r ∧ decide (r ≥ 0) = (l.drop i).any fun x => s.toList == x.toList := by
  intro d
  induction d with
  | zero =>
    intro k i hd hi hk
    obtain ⟨k, rfl⟩ : ∃ m, k = m + 1 := ⟨k - 1, by omega⟩
    have : i = l.length := by omega
    subst this
    refine ⟨-1, ?_, by simp⟩
    simp only [slices_Index_string_string.l0]
    rw [if_neg (by omega)]
  | succ d ih =>
    intro k i hd hi hk
    obtain ⟨k, rfl⟩ : ∃ m, k = m + 1 := ⟨k - 1, by omega⟩
    have hlt : i < l.length := by omega
    rw [List.drop_eq_getElem_cons hlt]
    simp only [slices_Index_string_string.l0, List.any_cons]
    rw [if_pos (by omega), if_pos (by omega), if_pos (by omega), rdOf_nat _ _ _ hlt]
    by_cases e : s.toList = l[i].toList
    · exact ⟨i, by rw [if_pos e], by simp [e]⟩
    · obtain ⟨r, hr, h⟩ := ih k (i + 1) (by omega) (by omega) (by omega)
      refine ⟨r, ?_, by rw [h]; simp [e]⟩
      rw [if_neg e, wrap_succ hlt hl]
      exact hr
theorem contains_at (l : List ByteArray) (s : ByteArray) (hl : l.length ≤ 9223372036854775807) : slices_Contains_string_string.f (l.length + 1) l s = some (hasS l s) := by
  obtain ⟨r, hr, h⟩ := index_go l s hl l.length (l.length + 1) 0 (by omega) (by omega) (by omega)
  unfold slices_Contains_string_string.f slices_Index_string_string.f
  rw [show slices_Index_string_string.l0 (l.length + 1) l s (l.length : Int) 0 = some r from hr]
  simp only [Option.bind_some]
  rw [h]
  rfl
end Go.Proofs.Ytaofjgnhapnndaa.Q
